/-
  How terms are measured: plain laws; no condition beyond those that each theorem names.
-/
import Derived.Test.YtifefbhllfdmlaaGreatDoorTeP62
import Derived.Test.YtifefbhllfdmlaaGreatDoorSoP63
import Derived.Test.YtifefbhllfdmlaaGreatDoorTeP61
import Derived.Test.YtifefbhllfdmlaaGreatDoorVoP65
set_option maxRecDepth 100000
set_option linter.unusedSimpArgs false
set_option linter.unusedVariables false
set_option maxHeartbeats 4000000
namespace Go.Proofs.YtifefbhllfdmlaaGreatDoor
open Go Go.Vo
open Nat (reduceAdd reduceSub reduceMul reduceLeDiff reduceLT reduceEqDiff)
open Int (reduceNeg)

def jL : Str := [73, 110, 116]
def jT : Str := [66, 111, 111, 108]
def uG : Str := [84, 101, 120, 116]
def idS : Str := [73, 100]
def aGy (s : Str) : List Str := if s = [97, 100, 100] then [jL, jL] else if s = [115, 117, 98] then [jL, jL] else if s = [109, 117, 108] then [jL, jL] else if s = [100, 105, 118] then [jL, jL] else if s = [109, 111, 100] then [jL, jL] else if s = [108, 116] then [jL, jL] else if s = [108, 101] then [jL, jL] else if s = [103, 116] then [jL, jL] else if s = [103, 101] then [jL, jL] else if s = [110, 101, 103] then [jL] else if s = [116, 101, 120, 116] then [jL] else if s = [101, 113] then [mT, mT] else if s = [110, 101] then [mT, mT] else if s = [97, 110, 100] then [jT, jT] else if s = [111, 114] then [jT, jT] else if s = [110, 111, 116] then [jT] else if s = [112, 105, 99, 107] then [jT, mT, mT] else if s = [99, 97, 116] then [uG, uG] else if s = [108, 101, 110, 103, 116, 104] then [pW] else if s = [106, 111, 105, 110] then [pW, pW] else if s = [103, 101, 116] then [yE, mT] else if s = [104, 97, 115] then [yE, mT] else if s = [100, 101, 108] then [yE, mT] else if s = [112, 117, 116] then [yE, mT, mT] else if s = [107, 101, 121, 115] then [yE] else if s = [115, 105, 122, 101] then [yE] else if s = [105, 115] then [mT, uG] else [mT]
def uI (s : Str) : Str := if s = [97, 100, 100] then jL else if s = [115, 117, 98] then jL else if s = [109, 117, 108] then jL else if s = [100, 105, 118] then jL else if s = [109, 111, 100] then jL else if s = [110, 101, 103] then jL else if s = [108, 101, 110, 103, 116, 104] then jL else if s = [115, 105, 122, 101] then jL else if s = [99, 97, 116] then uG else if s = [116, 101, 120, 116] then uG else if s = [106, 111, 105, 110] then pW else if s = [107, 101, 121, 115] then pW else if s = [112, 117, 116] then yE else if s = [100, 101, 108] then yE else if s = [112, 105, 99, 107] then mT else if s = [103, 101, 116] then mT else jT
def yW (s : Str) : List Str × Str := if s = [97, 100, 100] then ([jL, jL], jL) else if s = [115, 117, 98] then ([jL, jL], jL) else if s = [109, 117, 108] then ([jL, jL], jL) else if s = [100, 105, 118] then ([jL, jL], jL) else if s = [109, 111, 100] then ([jL, jL], jL) else if s = [110, 101, 103] then ([jL], jL) else if s = [108, 116] then ([jL, jL], jT) else if s = [108, 101] then ([jL, jL], jT) else if s = [103, 116] then ([jL, jL], jT) else if s = [103, 101] then ([jL, jL], jT) else if s = [101, 113] then ([mT, mT], jT) else if s = [110, 101] then ([mT, mT], jT) else if s = [97, 110, 100] then ([jT, jT], jT) else if s = [111, 114] then ([jT, jT], jT) else if s = [110, 111, 116] then ([jT], jT) else if s = [112, 105, 99, 107] then ([jT, mT, mT], mT) else if s = [99, 97, 116] then ([uG, uG], uG) else if s = [108, 101, 110, 103, 116, 104] then ([pW], jL) else if s = [116, 101, 120, 116] then ([jL], uG) else if s = [106, 111, 105, 110] then ([pW, pW], pW) else if s = [103, 101, 116] then ([yE, mT], mT) else if s = [112, 117, 116] then ([yE, mT, mT], yE) else if s = [104, 97, 115] then ([yE, mT], jT) else if s = [100, 101, 108] then ([yE, mT], yE) else if s = [107, 101, 121, 115] then ([yE], pW) else if s = [115, 105, 122, 101] then ([yE], jL) else if s = [105, 115] then ([mT, uG], jT) else ([mT], jT)
def strs : List AV → List Str
 | .s x :: l => x :: strs l
 | _ => []
theorem N6 {H : List AObj} {i : Nat} {fz t : Bool} {l : List Str} (h1 : H[i]? = some (.arr fz 1 (l.map .s))) : avs l = gG dep H (.hs i 0 l.length t) := by
 simp only [iT, pers, zW, h1, aP, if_false, bX, Nat.mul_one, fL, aZ, if_true, dG]
 rw [aJ (by simp)]
 simp only [iO, if_true, avs]
theorem aCv {H : List AObj} {i n : Nat} {cells : List AV} {fz t : Bool} {l : List Str} (h1 : H[i]? = some (.arr fz 1 cells)) (hl : l = strs cells) (hc : (strs cells).map .s = cells) (hn : n = (strs cells).length) : Fin H (.hs i 0 n t) (avs l) := by
 rw [← hl] at hc hn
 rw [← hc] at h1
 subst hn
 exact .inr ⟨N6 h1, by simp [bS, avs], by simp [bS, avs]⟩
theorem S3 {H : List AObj} {i n : Nat} {cells : List AV} {fz t : Bool} {l : List Str} {r r' : Str} (h1 : H[i]? = some (.arr fz 1 cells)) (hl : (l, r') = (strs cells, r)) (hc : (strs cells).map .s = cells) (hn : n = (strs cells).length) : Fin H (.tup [.hs i 0 n t, .s r]) (.tup [avs l, .s r']) := by
 injection hl with hl hr
 rw [← hl] at hc hn
 rw [← hc] at h1
 subst hn hr
 exact .inr ⟨⟨N6 h1, rfl, trivial⟩, by simp [bS, finIdsL, avs], by simp [bS, finIdsL, avs]⟩
theorem bHn (s : Str): CT 253 [.s s] (avs (aGy s)) := by
 refine aF mixed Tryz.func253 g0 ?_
 · skip
   (refine zs0 ?_; repeat' first | exact trivial | refine zJ ?_ ?_ | refine zH fun hc => ?_)
   all_goals first
     | (subst hc; exact aCv rfl (by decide +kernel) rfl rfl)
     | (simp only [aGy, *, if_false]; exact aCv rfl rfl rfl rfl)
theorem bHm (s : Str): CT 254 [.s s] (.s (uI s)) := by
 refine aF mixed Tryz.func254 g0 ?_
 · skip
   (refine zs0 ?_; repeat' first | exact trivial | refine zJ ?_ ?_ | refine zH fun hc => ?_)
   all_goals first
     | (subst hc; exact aE (congrArg AV.s (by decide +kernel)) rfl)
     | (simp only [uI, *, if_false]; exact aE rfl rfl)
theorem bHr (s : Str): CT 255 [.s s] (.tup [avs (yW s).1, .s (yW s).2]) := by
 refine aF mixed Tryz.func255 g0 ?_
 · skip
   (refine zs0 ?_; repeat' first | exact trivial | refine zJ ?_ ?_ | refine zH fun hc => ?_)
   all_goals first
     | (subst hc; exact S3 rfl (by decide +kernel) rfl rfl)
     | (simp only [yW, *, if_false]; exact S3 rfl rfl rfl rfl)
def qH (x : Str) : Option LOp := if gL.contains x then some ⟨x, aGy x, uI x, [], 0, 0, []⟩ else none
theorem qT {H : List AObj} {o o' : LOp} {a b a' b' : Bool} (h : (o', a', b') = (o, a, b)) : Fin H (.tup [.agg [.s o.name, .sl (o.args.map .s) o.args.length, .s o.sort, .sl (o.pieces.flatMap bW) o.pieces.length, .i .i64 o.prec, .i .i64 o.assoc, .sl (o.strict.map (.i .i64)) o.strict.length], .b a, .b b]) (.tup [.agg [.s o'.name, .sl (o'.args.map .s) o'.args.length, .s o'.sort, .sl (o'.pieces.flatMap bW) o'.pieces.length, .i .i64 o'.prec, .i .i64 o'.assoc, .sl (o'.strict.map (.i .i64)) o'.strict.length], .b a', .b b']) := by
 injection h with h1 h2; injection h2 with h2 h3
 subst h1 h2 h3
 exact aE rfl (by simp only [pers, persL, iO, gW, fI, dN])
theorem aLi {H : List AObj} {x r : Str} {l : List Str} : Fin H (.tup [.agg [.s x, .sl (l.map .s) l.length, .s r, .e0, .i .i64 0, .i .i64 0, .e0], .b true]) (.tup [elO ⟨x, l, r, [], 0, 0, []⟩, .b true]) :=
 .inr ⟨⟨⟨rfl, by show _ = gG dep H _; simp only [iT, pers, iO, if_true]; rfl, rfl, rfl, rfl, rfl, rfl, trivial⟩, rfl, trivial⟩, by simp [elO, bI, bS, finIdsL, avs, avb, avi], by simp [elO, bI, bS, finIdsL, avs, avb, avi]⟩
theorem bHs (x : Str): CT 226 [.s x] (pJ (qH x)) := by
 refine aF mixed Tryz.func226 g0 ?_
 · skip
   (refine zt3 (bAx x) (bHn x) (bHm x) ?_; repeat' first | exact trivial | refine zJ ?_ ?_ | refine zH fun hc => ?_)
   · rw [qH, if_neg (by rw [hc]; simp)]
     exact S1
   · rw [qH, if_pos hc]
     exact aLi
def called (s : cC) (x : Str) : LOp × Bool × Bool := match zZ s x with
 | some o => (o, false, true)
 | none => match uP s x with
   | some o => (o, true, true)
   | none => match qH x with
     | some o => (o, true, true)
     | none => (default, true, false)
theorem aLx (s : cC) (x : Str): CT 185 [cN s, .s x] (.tup [elO (called s x).1, .b (called s x).2.1, .b (called s x).2.2]) := by
 refine aF mixed Tryz.func185 g0 ?_
 · skip
   have c1 := bFl s x
   have c2 := bNe s x
   have c3 := bHs x
   cases h1 : zZ s x with
   | some o =>
     rw [h1] at c1
     (repeat' (first | refine gT ?_ ?_ | refine gF ?_ ?_ | refine gC ?_ ?_ | ((refine aW (c1) ?_ ?_; (focus (simp -implicitDefEqProofs (disch := omega) only [pJ, zdB, go_sem, simprocAttr]; done))); simp -implicitDefEqProofs (disch := omega) only [pJ, go_sem, simprocAttr]) | refine aV (by omega) ?_ | (intro hr; have hc := hr; (try simp only [zdz] at hc); simp -implicitDefEqProofs (disch := omega) only [hr, pJ, go_sem, simprocAttr]; (try clear hr))))
     exact qT (by simp only [called, h1])
   | none =>
   rw [h1] at c1
   cases h2 : uP s x with
   | some o =>
     rw [h2] at c2
     (repeat' (first | refine gT ?_ ?_ | refine gF ?_ ?_ | refine gC ?_ ?_ | ((first | (refine aW (c1) ?_ ?_; (focus (simp -implicitDefEqProofs (disch := omega) only [pJ, zdB, go_sem, simprocAttr]; done))) | (refine aW (c2) ?_ ?_; (focus (simp -implicitDefEqProofs (disch := omega) only [pJ, zdB, go_sem, simprocAttr]; done)))); simp -implicitDefEqProofs (disch := omega) only [pJ, go_sem, simprocAttr]) | refine aV (by omega) ?_ | (intro hr; have hc := hr; (try simp only [zdz] at hc); simp -implicitDefEqProofs (disch := omega) only [hr, pJ, go_sem, simprocAttr]; (try clear hr))))
     exact qT (by simp only [called, h1, h2])
   | none =>
   rw [h2] at c2
   cases h3 : qH x with
   | some o =>
     rw [h3] at c3
     (repeat' (first | refine gT ?_ ?_ | refine gF ?_ ?_ | refine gC ?_ ?_ | ((first | (refine aW (c1) ?_ ?_; (focus (simp -implicitDefEqProofs (disch := omega) only [pJ, zdB, go_sem, simprocAttr]; done))) | (refine aW (c2) ?_ ?_; (focus (simp -implicitDefEqProofs (disch := omega) only [pJ, zdB, go_sem, simprocAttr]; done))) | (refine aW (c3) ?_ ?_; (focus (simp -implicitDefEqProofs (disch := omega) only [pJ, zdB, go_sem, simprocAttr]; done)))); simp -implicitDefEqProofs (disch := omega) only [pJ, go_sem, simprocAttr]) | refine aV (by omega) ?_ | (intro hr; have hc := hr; (try simp only [zdz] at hc); simp -implicitDefEqProofs (disch := omega) only [hr, pJ, go_sem, simprocAttr]; (try clear hr))))
     exact qT (by simp only [called, h1, h2, h3])
   | none =>
     rw [h3] at c3
     (repeat' (first | refine gT ?_ ?_ | refine gF ?_ ?_ | refine gC ?_ ?_ | ((first | (refine aW (c1) ?_ ?_; (focus (simp -implicitDefEqProofs (disch := omega) only [pJ, zdB, go_sem, simprocAttr]; done))) | (refine aW (c2) ?_ ?_; (focus (simp -implicitDefEqProofs (disch := omega) only [pJ, zdB, go_sem, simprocAttr]; done))) | (refine aW (c3) ?_ ?_; (focus (simp -implicitDefEqProofs (disch := omega) only [pJ, zdB, go_sem, simprocAttr]; done)))); simp -implicitDefEqProofs (disch := omega) only [pJ, go_sem, simprocAttr]) | refine aV (by omega) ?_ | (intro hr; have hc := hr; (try simp only [zdz] at hc); simp -implicitDefEqProofs (disch := omega) only [hr, pJ, go_sem, simprocAttr]; (try clear hr))))
     exact qT (by simp only [called, h1, h2, h3])
def jS (s : cC) (t : LTerm) : Str := if t.kind = 1 then jL else if t.kind = 2 then jT else if t.kind = 3 then uG else if t.kind = 4 then idS else if t.kind = 7 then pW else if t.kind = 8 then yE else if t.kind = 5 then (called s t.text).1.sort else if existsA s t.sort then t.sort else []
theorem aLz (s : cC) (t : LTerm): CT 159 [cN s, elT t] (.s (jS s t)) := by
 refine aF mixed Tryz.func159 g0 ?_
 · skip
   (refine zt2 (aLx s t.text) (I2 s t.sort) ?_; repeat' first | exact trivial | refine zJ ?_ ?_ | refine zH fun hc => ?_)
   all_goals refine aE (congrArg AV.s ?_) rfl
   all_goals simp only [jS, *, if_true, if_false, aP, Int.reduceEq]
   all_goals rfl
def argsR2 (s : cC) (x : Str) : List Str × Str × Bool := match zZ s x with
 | some o => (o.args, o.sort, true)
 | none => match uP s x with
   | some o => (o.args, o.sort, true)
   | none => if gL.contains x then ((yW x).1, (yW x).2, true) else ([], [], false)
theorem yK {H : List AObj} {l l' : List Str} {r r' : Str} {b b' : Bool} (h : (l', r', b') = (l, r, b)) : Fin H (.tup [.sl (l.map .s) l.length, .s r, .b b]) (.tup [.sl (l'.map .s) l'.length, .s r', .b b']) := by
 injection h with h1 h2; injection h2 with h2 h3
 subst h1 h2 h3
 exact aE rfl (by simp only [pers, persL, iO, dN])
theorem aLj {H : List AObj} {l' : List Str} {r r' : Str} {b b' : Bool} (h : (l', r', b') = ([], r, b)) : Fin H (.tup [.e0, .s r, .b b]) (.tup [.sl (l'.map .s) l'.length, .s r', .b b']) := by
 injection h with h1 h2; injection h2 with h2 h3
 subst h1 h2 h3
 exact .inr ⟨⟨rfl, rfl, rfl, trivial⟩, by simp [bS, finIdsL], by simp [bS, finIdsL]⟩
theorem aWf (s : cC) (x : Str) (hs : OkS s): CT 228 [.agg (aN s), .s x] (.tup [avs (argsR2 s x).1, .s (argsR2 s x).2.1, .b (argsR2 s x).2.2]) := by
 refine aF mixed Tryz.func228 g0 ?_
 · skip
   have c1 : Ctr _ _ _ _ (fS (zZ s x)) := aDl s.ops x hs.ops
   have c2 : Ctr _ _ _ _ (fS (uP s x)) := aDl s.funs x hs.funs
   cases h1 : zZ s x with
   | some o =>
     rw [h1] at c1
     (repeat' (first | refine gT ?_ ?_ | refine gF ?_ ?_ | refine gC ?_ ?_ | ((refine aW (c1) ?_ ?_; (focus (simp -implicitDefEqProofs (disch := omega) only [fS, zdB, go_sem, simprocAttr]; done))); simp -implicitDefEqProofs (disch := omega) only [fS, go_sem, simprocAttr]) | refine aV (by omega) ?_ | (intro hr; have hc := hr; (try simp only [zdz] at hc); simp -implicitDefEqProofs (disch := omega) only [hr, fS, go_sem, simprocAttr]; (try clear hr))))
     exact yK (by simp only [argsR2, h1])
   | none =>
   rw [h1] at c1
   cases h2 : uP s x with
   | some o =>
     rw [h2] at c2
     (repeat' (first | refine gT ?_ ?_ | refine gF ?_ ?_ | refine gC ?_ ?_ | ((first | (refine aW (c1) ?_ ?_; (focus (simp -implicitDefEqProofs (disch := omega) only [fS, zdB, go_sem, simprocAttr]; done))) | (refine aW (c2) ?_ ?_; (focus (simp -implicitDefEqProofs (disch := omega) only [fS, zdB, go_sem, simprocAttr]; done)))); simp -implicitDefEqProofs (disch := omega) only [fS, go_sem, simprocAttr]) | refine aV (by omega) ?_ | (intro hr; have hc := hr; (try simp only [zdz] at hc); simp -implicitDefEqProofs (disch := omega) only [hr, fS, go_sem, simprocAttr]; (try clear hr))))
     exact yK (by simp only [argsR2, h1, h2])
   | none =>
     rw [h2] at c2
     (repeat' (first | refine gT ?_ ?_ | refine gF ?_ ?_ | refine gC ?_ ?_ | ((first | (refine aW (c1) ?_ ?_; (focus (simp -implicitDefEqProofs (disch := omega) only [fS, zdB, go_sem, simprocAttr]; done))) | (refine aW (c2) ?_ ?_; (focus (simp -implicitDefEqProofs (disch := omega) only [fS, zdB, go_sem, simprocAttr]; done))) | (refine aW (bAw x) ?_ ?_; (focus (simp -implicitDefEqProofs (disch := omega) only [fS, zdB, go_sem, simprocAttr]; done))) | (refine aW (bHr x) ?_ ?_; (focus (simp -implicitDefEqProofs (disch := omega) only [fS, zdB, go_sem, simprocAttr]; done)))); simp -implicitDefEqProofs (disch := omega) only [fS, go_sem, simprocAttr]) | refine aV (by omega) ?_ | (intro hr; have hc := hr; (try simp only [zdz] at hc); simp -implicitDefEqProofs (disch := omega) only [hr, fS, go_sem, simprocAttr]; (try clear hr))))
     · exact aLj (by simp only [argsR2, h1, h2, hc, aP, if_false])
     · exact yK (by simp only [argsR2, h1, h2, hc, if_true])
def ofR (s : cC) (t : LTerm) : Str × Bool := if t.kind = 1 then (jL, true) else if t.kind = 2 then (jT, true) else if t.kind = 3 then (uG, true) else if t.kind = 4 then (idS, true) else if t.kind = 7 then (pW, true) else if t.kind = 8 then (yE, true) else if t.kind = 6 then (t.sort, gO s t.sort) else ((argsR2 s t.text).2.1, (argsR2 s t.text).2.2)
theorem aDi (s : cC) (t : LTerm) (hs : OkS s): CT 215 [.agg (aN s), elT t] (.tup [.s (ofR s t).1, .b (ofR s t).2]) := by
 refine aF mixed Tryz.func215 g0 ?_
 · skip
   (refine zt4 (aWf s t.text hs) bAu (wI nG t.sort (by decide)) (wI s.sorts t.sort hs.sorts) ?_; repeat' first | exact trivial | refine zJ ?_ ?_ | refine zH fun hc => ?_)
   all_goals refine aE ?_ rfl
   all_goals simp only [ofR, gO, *, if_true, if_false, cQ, cI, Int.reduceEq]
   all_goals rfl
theorem eQ (b : Bool) : b = true ∨ b = false := by cases b <;> simp

theorem aDj (l m : List LTerm) (hl : l.length ≤ 1466015503701) (hm : m.length ≤ 1466015503701) (ih : ∀ a ∈ l, ∀ b ∈ m, CT 74 [elT a, elT b] (.b (decide (a = b)))): CT 33 [avt l, avt m] (.b (decide (l = m))) := by
 refine bM mixed Tryz.func33 g0 ?_
 · simp -implicitDefEqProofs (disch := omega) only [Tryz.f33, go_sem, List.replicate, simprocAttr, avt]
   (refine zs0 ?_; repeat' first | exact trivial | refine zJ ?_ ?_ | refine zH fun hc => ?_)
   · refine aE ?_ (by rfl)
     have : l ≠ m := fun h => by rw [h] at hc; exact hc rfl
     rw [zf this]
   refine bP (fun (k : Nat) => [.k, .k, .k, .k, .j, .j, .k, .k, .k, .k, .k, .k, .k, .v (.i .i64 k), .j, .j, .j, .j, .j, .j, .j, .j, .j, .j, .j, .j, .j]) (fun k => []) (fun k => k ≤ l.length ∧ ∀ j, j < k → l.getD j default = m.getD j default) (fun k => l.length - k) (0) ⟨aG _, fun j h => by omega⟩ rfl (by simp [eN]) ?_
   rintro k j ⟨hk, ha⟩
   have o : k < l.length → k < m.length → CT 74 [elT (l.getD k default), elT (m.getD k default)] (.b (decide (l.getD k default = m.getD k default))) := fun h h' => ih _ (bB h) _ (bB h')
   refine zg ?_
   (refine zt1 o ?_; repeat' first | exact trivial | refine zJ ?_ ?_ | refine zH fun hc => ?_)
   · refine aE ?_ (by rfl)
     have : l ≠ m := fun h => by simp [h] at *
     rw [zf this]
   · exact ⟨k + 1, ⟨by omega, aY ha (by simpa using hc)⟩, by omega, by simp⟩
   · refine aE ?_ (by rfl)
     have : l = m := aLm (d := default) (by omega) (fun j hj => ha j (by omega))
     rw [zt this]
theorem aDd (l m : List LTerm) (hl : l.length ≤ 1466015503701) (hm : m.length ≤ 1466015503701) (ih : ∀ a ∈ l, ∀ b ∈ m, CT 154 [elT a, elT b] (.b (decide (a = b)))): CT 200 [avt l, avt m, .fn 154 [] []] (.b (decide (l = m))) := by
 refine bM mixed Tryz.func200 g0 ?_
 · simp -implicitDefEqProofs (disch := omega) only [Tryz.f200, go_sem, List.replicate, simprocAttr, avt]
   (refine zs0 ?_; repeat' first | exact trivial | refine zJ ?_ ?_ | refine zH fun hc => ?_)
   · refine aE ?_ (by rfl)
     have : l ≠ m := fun h => by rw [h] at hc; exact hc rfl
     rw [zf this]
   refine eJ (fun (k : Nat) => [.k, .k, .k, .k, .k, .k, .j, .j, .j, .j, .k, .k, .k, .k, .k, .k, .k, .v (.i .i64 k), .j, .j, .j, .j, .j, .j, .j, .j, .j, .j, .j, .j, .j, .j]) (fun k => []) (fun k => k ≤ l.length ∧ ∀ j, j < k → l.getD j default = m.getD j default) (fun k => l.length - k) (0) _ ⟨aG _, fun j h => by omega⟩ rfl (by simp [eN]) ?_
   rintro k g j ⟨hk, ha⟩
   have o : k < l.length → k < m.length → CT 154 [elT (l.getD k default), elT (m.getD k default)] (.b (decide (l.getD k default = m.getD k default))) := fun h h' => ih _ (bB h) _ (bB h')
   refine zg ?_
   (refine zt1 o ?_; repeat' first | exact trivial | refine zJ ?_ ?_ | refine zH fun hc => ?_)
   · refine aE ?_ (by rfl)
     have : l ≠ m := fun h => by simp [h] at *
     rw [zf this]
   · exact ⟨k + 1, _, ⟨by omega, aY ha (by simpa using hc)⟩, by omega, rfl, by simp⟩
   · refine aE ?_ (by rfl)
     have : l = m := aLm (d := default) (by omega) (fun j hj => ha j (by omega))
     rw [zt this]
def aPf (a b : LTerm) : Bool := decide (a.kind = b.kind) && decide (a.n = b.n) && decide (a.text = b.text) && decide (a.sort = b.sort) && decide (a.kids = b.kids) && decide (a.rest = b.rest)
theorem aBf (a b : LTerm) : aPf a b = decide (a = b) := by
 rw [cA]; simp only [aPf, aB, decide_eq_true_eq, LTerm.ext_iff, and_assoc]
theorem aSt (a b : LTerm) (ha : OkT a) (hb : OkT b) (ihk : ∀ x ∈ a.kids, ∀ y ∈ b.kids, CT 74 [elT x, elT y] (.b (decide (x = y)))) (ihr : ∀ x ∈ a.rest, ∀ y ∈ b.rest, CT 74 [elT x, elT y] (.b (decide (x = y)))): CT 74 [elT a, elT b] (.b (decide (a = b))) := by
 refine aF mixed Tryz.func74 g0 ?_
 · skip
   have h1 := ha.kids
   have h2 := ha.rest
   have h3 := hb.kids
   have h4 := hb.rest
   rw [← aBf]
   (refine zt2 (aDj a.kids b.kids h1 h3 ihk) (aDj a.rest b.rest h2 h4 ihr) ?_; repeat' first | exact trivial | refine zJ ?_ ?_ | refine zH fun hc => ?_)
   all_goals refine aE ?_ rfl
   all_goals simp only [aPf, *, decide_true, decide_false, Bool.true_and, Bool.false_and, Bool.and_true, Bool.and_false]
theorem aDk (a : LTerm) : ∀ (b : LTerm), OkT a → OkT b → CT 74 [elT a, elT b] (.b (decide (a = b))) :=
 dD (Q := fun a => ∀ (b : LTerm), OkT a → OkT b → CT 74 [elT a, elT b] (.b (decide (a = b)))) (fun a hk hr b ha hb => aSt a b ha hb (fun x hx y hy => hk x hx y (ha.kid x hx) (hb.kid y hy)) (fun x hx y hy => hr x hx y (ha.rst x hx) (hb.rst y hy))) a
theorem aSo (a b : LTerm) (ha : OkT a) (hb : OkT b) (ihk : ∀ x ∈ a.kids, ∀ y ∈ b.kids, CT 154 [elT x, elT y] (.b (decide (x = y)))) (ihr : ∀ x ∈ a.rest, ∀ y ∈ b.rest, CT 154 [elT x, elT y] (.b (decide (x = y)))): CT 154 [elT a, elT b] (.b (decide (a = b))) := by
 refine aF mixed Tryz.func154 g0 ?_
 · skip
   have h1 := ha.kids
   have h2 := ha.rest
   have h3 := hb.kids
   have h4 := hb.rest
   rw [← aBf]
   (refine zt2 (aDd a.kids b.kids h1 h3 ihk) (aDd a.rest b.rest h2 h4 ihr) ?_; repeat' first | exact trivial | refine zJ ?_ ?_ | refine zH fun hc => ?_)
   all_goals refine aE ?_ rfl
   all_goals simp only [aPf, *, decide_true, decide_false, Bool.true_and, Bool.false_and, Bool.and_true, Bool.and_false]
theorem aWe (a : LTerm) : ∀ (b : LTerm), OkT a → OkT b → CT 154 [elT a, elT b] (.b (decide (a = b))) :=
 dD (Q := fun a => ∀ (b : LTerm), OkT a → OkT b → CT 154 [elT a, elT b] (.b (decide (a = b)))) (fun a hk hr b ha hb => aSo a b ha hb (fun x hx y hy => hk x hx y (ha.kid x hx) (hb.kid y hy)) (fun x hx y hy => hr x hx y (ha.rst x hx) (hb.rst y hy))) a

mutual
def zR : LTerm → LTerm → Int
 | .mk k n t s ks rs, .mk k' n' t' s' ks' rs' =>
   if oT k k' = 0 then (if oT n n' = 0 then (if pL t t' = 0 then (if pL s s' = 0 then (if ordPL ks ks' = 0 then ordPL rs rs' else ordPL ks ks') else pL s s') else pL t t') else oT n n') else oT k k'
def ordPL : List LTerm → List LTerm → Int
 | [], [] => 0
 | [], _ :: _ => -1
 | _ :: _, [] => 1
 | a :: l, b :: m => if zR a b = 0 then ordPL l m else zR a b
end
mutual
def zY : LTerm → LTerm → Int
 | .mk k n t s ks rs, .mk k' n' t' s' ks' rs' =>
   if oT k k' = 0 then (if k = 1 ∨ k = 2 then oT n n' else if k = 3 ∨ k = 4 then pL t t' else if k = 6 then (if pL t t' = 0 then pL s s' else pL t t') else if k = 5 then (if pL t t' = 0 then ordRL ks ks' else pL t t') else (if ordRL ks ks' = 0 then ordRL rs rs' else ordRL ks ks')) else oT k k'
def ordRL : List LTerm → List LTerm → Int
 | [], [] => 0
 | [], _ :: _ => -1
 | _ :: _, [] => 1
 | a :: l, b :: m => if zY a b = 0 then ordRL l m else zY a b
end
theorem Y0 (a b : LTerm) : zR a b = if oT a.kind b.kind = 0 then (if oT a.n b.n = 0 then (if pL a.text b.text = 0 then (if pL a.sort b.sort = 0 then (if ordPL a.kids b.kids = 0 then ordPL a.rest b.rest else ordPL a.kids b.kids) else pL a.sort b.sort) else pL a.text b.text) else oT a.n b.n) else oT a.kind b.kind := by
 cases a; cases b; rw [zR]; rfl
theorem aJn (a b : LTerm) : zY a b = if oT a.kind b.kind = 0 then (if a.kind = 1 ∨ a.kind = 2 then oT a.n b.n else if a.kind = 3 ∨ a.kind = 4 then pL a.text b.text else if a.kind = 6 then (if pL a.text b.text = 0 then pL a.sort b.sort else pL a.text b.text) else if a.kind = 5 then (if pL a.text b.text = 0 then ordRL a.kids b.kids else pL a.text b.text) else (if ordRL a.kids b.kids = 0 then ordRL a.rest b.rest else ordRL a.kids b.kids)) else oT a.kind b.kind := by
 cases a; cases b; rw [zY]; rfl
theorem aAg {a b : Int} (h : a < b) : oT a b = -1 := if_pos h
theorem aAh {a b : Int} (h : b < a) : oT a b = 1 := by rw [oT, if_neg (by omega), if_pos h]
theorem I6 {a b : Int} (h : a = b) : oT a b = 0 := by rw [oT, if_neg (by omega), if_neg (by omega)]
theorem aBr {l m : List LTerm} {k : Nat} (h : k < l.length) (h' : k < m.length) : ordPL (l.drop k) (m.drop k) = if zR (l.getD k default) (m.getD k default) = 0 then ordPL (l.drop (k + 1)) (m.drop (k + 1)) else zR (l.getD k default) (m.getD k default) := by
 rw [bO h, bO h', ordPL]; simp [List.getD, h, h']
theorem xY {l m : List LTerm} {k : Nat} (h : k = l.length ∨ k = m.length) (h1 : k ≤ l.length) (h2 : k ≤ m.length) : ordPL (l.drop k) (m.drop k) = oT l.length m.length := by
 by_cases h3 : k < l.length
 · rw [bO h3, bF (l := m) (by omega), ordPL, aAh (by omega)]
 · by_cases h4 : k < m.length
   · rw [bO h4, bF (l := l) (by omega), ordPL, aAg (by omega)]
   · rw [bF (l := l) (by omega), bF (l := m) (by omega), ordPL, I6 (by omega)]
theorem aBq {l m : List LTerm} {k : Nat} (h : k < l.length) (h' : k < m.length) : ordRL (l.drop k) (m.drop k) = if zY (l.getD k default) (m.getD k default) = 0 then ordRL (l.drop (k + 1)) (m.drop (k + 1)) else zY (l.getD k default) (m.getD k default) := by
 rw [bO h, bO h', ordRL]; simp [List.getD, h, h']
theorem P5 {l m : List LTerm} {k : Nat} (h : k = l.length ∨ k = m.length) (h1 : k ≤ l.length) (h2 : k ≤ m.length) : ordRL (l.drop k) (m.drop k) = oT l.length m.length := by
 by_cases h3 : k < l.length
 · rw [bO h3, bF (l := m) (by omega), ordRL, aAh (by omega)]
 · by_cases h4 : k < m.length
   · rw [bO h4, bF (l := l) (by omega), ordRL, aAg (by omega)]
   · rw [bF (l := l) (by omega), bF (l := m) (by omega), ordRL, I6 (by omega)]
theorem aDe (l m : List LTerm) (hl : l.length ≤ 1466015503701) (hm : m.length ≤ 1466015503701) (ih : ∀ a ∈ l, ∀ b ∈ m, CT 160 [elT a, elT b] (.i .i64 (zR a b))): CT 206 [avt l, avt m, .fn 160 [] []] (.i .i64 (ordPL l m)) := by
 refine bM mixed Tryz.func206 g0 ?_
 · simp -implicitDefEqProofs (disch := omega) only [Tryz.f206, go_sem, List.replicate, simprocAttr, avt]
   refine eJ (fun (k : Nat) => [.k, .k, .k, .k, .k, .k, .j, .j, .j, .j, .j, .k, .k, .v (.i .i64 k), .j, .j, .j, .j, .j, .j, .j, .j, .j, .j, .j, .j, .j, .j, .j, .j, .j, .j, .j, .j, .k, .k, .k, .k, .k]) (fun k => []) (fun k => k ≤ l.length ∧ k ≤ m.length ∧ ordPL l m = ordPL (l.drop k) (m.drop k)) (fun k => l.length - k) (0) _ ⟨aG _, aG _, rfl⟩ rfl (by simp [eN]) ?_
   rintro k g j ⟨hk, hk2, he⟩
   have o : k < l.length → k < m.length → CT 160 [elT (l.getD k default), elT (m.getD k default)] (.i .i64 (zR (l.getD k default) (m.getD k default))) := fun h h' => ih _ (bB h) _ (bB h')
   refine zg ?_
   (refine zt1 o ?_; repeat' first | exact trivial | refine zJ ?_ ?_ | refine zH fun hc => ?_)
   · exact aE (congrArg _ (by rw [he, xY (.inr (by omega)) hk hk2, aAh (by omega)])) rfl
   · exact aE (congrArg _ (by rw [he, aBr (by omega) (by omega), if_neg hc])) rfl
   · exact ⟨k + 1, _, ⟨by omega, by omega, by rw [he, aBr (by omega) (by omega), if_pos hc]⟩, by omega, rfl, by simp⟩
   · exact aE (congrArg _ (by rw [he, xY (.inl (by omega)) hk hk2, aAg (by omega)])) rfl
   · exact aE (congrArg _ (by rw [he, xY (.inl (by omega)) hk hk2, I6 (by omega)])) rfl
theorem aDc (l m : List LTerm) (hl : l.length ≤ 1466015503701) (hm : m.length ≤ 1466015503701) (ih : ∀ a ∈ l, ∀ b ∈ m, CT 217 [elT a, elT b] (.i .i64 (zY a b))): CT 243 [avt l, avt m] (.i .i64 (ordRL l m)) := by
 refine bM mixed Tryz.func243 g0 ?_
 · simp -implicitDefEqProofs (disch := omega) only [Tryz.f243, go_sem, List.replicate, simprocAttr, avt]
   refine bP (fun (k : Nat) => [.k, .k, .k, .k, .j, .v (.i .i64 k), .j, .j, .j, .j, .j, .j, .j, .j, .j, .j, .j, .j, .j, .j, .j, .j, .j, .j, .j, .j, .j, .j, .j, .j, .j, .k, .k, .k, .k, .k]) (fun k => []) (fun k => k ≤ l.length ∧ k ≤ m.length ∧ ordRL l m = ordRL (l.drop k) (m.drop k)) (fun k => l.length - k) (0) ⟨aG _, aG _, rfl⟩ rfl (by simp [eN]) ?_
   rintro k j ⟨hk, hk2, he⟩
   have o : k < l.length → k < m.length → CT 217 [elT (l.getD k default), elT (m.getD k default)] (.i .i64 (zY (l.getD k default) (m.getD k default))) := fun h h' => ih _ (bB h) _ (bB h')
   refine zg ?_
   (refine zt2 o (aLv l.length m.length) ?_; repeat' first | exact trivial | refine zJ ?_ ?_ | refine zH fun hc => ?_)
   · exact aE (congrArg _ (by rw [he, aBq (by omega) (by omega), if_neg hc])) rfl
   · exact ⟨k + 1, ⟨by omega, by omega, by rw [he, aBq (by omega) (by omega), if_pos hc]⟩, by omega, by simp⟩
   · exact aE (congrArg _ (by rw [he, P5 (.inr (by omega)) hk hk2])) rfl
   · exact aE (congrArg _ (by rw [he, P5 (.inl (by omega)) hk hk2])) rfl
theorem aUp (a b : LTerm) : (if orI [oT a.kind b.kind, oT a.n b.n, pL a.text b.text, pL a.sort b.sort] = 0 then orI [ordPL a.kids b.kids, ordPL a.rest b.rest] else orI [oT a.kind b.kind, oT a.n b.n, pL a.text b.text, pL a.sort b.sort]) = zR a b := by
 rw [Y0]
 by_cases h1 : oT a.kind b.kind = 0 <;> by_cases h2 : oT a.n b.n = 0 <;> by_cases h3 : pL a.text b.text = 0 <;> by_cases h4 : pL a.sort b.sort = 0 <;> by_cases h5 : ordPL a.kids b.kids = 0 <;> by_cases h6 : ordPL a.rest b.rest = 0 <;> simp only [orI, h1, h2, h3, h4, h5, h6, if_true, if_false]
theorem aSp (a b : LTerm) (ha : OkT a) (hb : OkT b) (ihk : ∀ x ∈ a.kids, ∀ y ∈ b.kids, CT 160 [elT x, elT y] (.i .i64 (zR x y))) (ihr : ∀ x ∈ a.rest, ∀ y ∈ b.rest, CT 160 [elT x, elT y] (.i .i64 (zR x y))): CT 160 [elT a, elT b] (.i .i64 (zR a b)) := by
 refine aF mixed Tryz.func160 g0 ?_
 · skip
   have e := Y0 a b
   (repeat' (first | refine gT ?_ ?_ | refine gF ?_ ?_ | refine gC ?_ ?_ | ((first | refine cF (bHg a.kind b.kind) ?_ | refine cF (bHf a.n b.n) ?_ | (refine aW (aWc a.text b.text) ?_ ?_; (focus (simp -implicitDefEqProofs (disch := omega) only [aU, bN, aQ, bD, Nat.reduceAdd, zdB, go_sem, simprocAttr]; done))) | (refine aW (aWc a.sort b.sort) ?_ ?_; (focus (simp -implicitDefEqProofs (disch := omega) only [aU, bN, aQ, bD, Nat.reduceAdd, zdB, go_sem, simprocAttr]; done))) | (refine aW (aWd [oT a.kind b.kind, oT a.n b.n, pL a.text b.text, pL a.sort b.sort] (by simp)) ?_ ?_; (focus (simp -implicitDefEqProofs (disch := omega) only [aU, bN, aQ, bD, Nat.reduceAdd, zdB, go_sem, simprocAttr]; done))) | (refine aW (aDe a.kids b.kids ha.kids hb.kids ihk) ?_ ?_; (focus (simp -implicitDefEqProofs (disch := omega) only [aU, bN, aQ, bD, Nat.reduceAdd, zdB, go_sem, simprocAttr]; done))) | (refine aW (aDe a.rest b.rest ha.rest hb.rest ihr) ?_ ?_; (focus (simp -implicitDefEqProofs (disch := omega) only [aU, bN, aQ, bD, Nat.reduceAdd, zdB, go_sem, simprocAttr]; done))) | (refine aW (aWd [ordPL a.kids b.kids, ordPL a.rest b.rest] (by simp)) ?_ ?_; (focus (simp -implicitDefEqProofs (disch := omega) only [aU, bN, aQ, bD, Nat.reduceAdd, zdB, go_sem, simprocAttr]; done)))); simp -implicitDefEqProofs (disch := omega) only [aU, bN, aQ, bD, Nat.reduceAdd, go_sem, simprocAttr]) | refine aV (by omega) ?_ | (intro hr; have hc := hr; (try simp only [zdz] at hc); simp -implicitDefEqProofs (disch := omega) only [hr, aU, bN, aQ, bD, Nat.reduceAdd, go_sem, simprocAttr]; (try clear hr))))
   all_goals refine aE (congrArg _ ?_) rfl
   · rw [← aUp a b, if_neg hc]
   · rw [← aUp a b, if_pos hc]
theorem aSn (a b : LTerm) (ha : OkT a) (hb : OkT b) (ihk : ∀ x ∈ a.kids, ∀ y ∈ b.kids, CT 217 [elT x, elT y] (.i .i64 (zY x y))) (ihr : ∀ x ∈ a.rest, ∀ y ∈ b.rest, CT 217 [elT x, elT y] (.i .i64 (zY x y))): CT 217 [elT a, elT b] (.i .i64 (zY a b)) := by
 refine aF mixed Tryz.func217 g0 ?_
 · skip
   have e := aJn a b
   (repeat' (first | refine gT ?_ ?_ | refine gF ?_ ?_ | refine gC ?_ ?_ | ((first | (refine aW (aLv a.kind b.kind) ?_ ?_; (focus (simp -implicitDefEqProofs (disch := omega) only [zdB, go_sem, simprocAttr]; done))) | (refine aW (aLv a.n b.n) ?_ ?_; (focus (simp -implicitDefEqProofs (disch := omega) only [zdB, go_sem, simprocAttr]; done))) | (refine aW (aWa a.text b.text) ?_ ?_; (focus (simp -implicitDefEqProofs (disch := omega) only [zdB, go_sem, simprocAttr]; done))) | (refine aW (aWa a.sort b.sort) ?_ ?_; (focus (simp -implicitDefEqProofs (disch := omega) only [zdB, go_sem, simprocAttr]; done))) | (refine aW (aDc a.kids b.kids ha.kids hb.kids ihk) ?_ ?_; (focus (simp -implicitDefEqProofs (disch := omega) only [zdB, go_sem, simprocAttr]; done))) | (refine aW (aDc a.rest b.rest ha.rest hb.rest ihr) ?_ ?_; (focus (simp -implicitDefEqProofs (disch := omega) only [zdB, go_sem, simprocAttr]; done)))); simp -implicitDefEqProofs (disch := omega) only [go_sem, simprocAttr]) | refine aV (by omega) ?_ | (intro hr; have hc := hr; (try simp only [zdz] at hc); simp -implicitDefEqProofs (disch := omega) only [hr, go_sem, simprocAttr]; (try clear hr))))
   all_goals refine aE (congrArg _ ?_) rfl
   all_goals rw [e]
   all_goals (first | rw [if_pos (by assumption)] | rw [if_neg (by assumption)])
   all_goals simp only [*, if_true, if_false, Int.reduceEq, or_true, true_or, or_false, false_or, not_true_eq_false, not_false_eq_true]
theorem bHl (a b : LTerm) (ha : OkT a) (hb : OkT b) : CT 160 [elT a, elT b] (.i .i64 (zR a b)) :=
 dD (Q := fun a => ∀ (b : LTerm), OkT a → OkT b → CT 160 [elT a, elT b] (.i .i64 (zR a b))) (fun a hk hr b ha hb => aSp a b ha hb (fun x hx y hy => hk x hx y (ha.kid x hx) (hb.kid y hy)) (fun x hx y hy => hr x hx y (ha.rst x hx) (hb.rst y hy))) a b ha hb
theorem bHi (a b : LTerm) (ha : OkT a) (hb : OkT b) : CT 217 [elT a, elT b] (.i .i64 (zY a b)) :=
 dD (Q := fun a => ∀ (b : LTerm), OkT a → OkT b → CT 217 [elT a, elT b] (.i .i64 (zY a b))) (fun a hk hr b ha hb => aSn a b ha hb (fun x hx y hy => hk x hx y (ha.kid x hx) (hb.kid y hy)) (fun x hx y hy => hr x hx y (ha.rst x hx) (hb.rst y hy))) a b ha hb

theorem aZl : cY [95] = false := by decide
theorem aQo : cY [36] = false := by decide
theorem aYu {s : Str} (h : sZ s = true) : cY s = false := by
 simp only [sZ, bK, decide_eq_true_eq] at h
 rcases h with rfl | rfl <;> decide
theorem aQj (s : Str) : cY s = true → ¬ s = [95] ∧ ¬ s = [36] := by
 intro h
 constructor <;> (rintro rfl; revert h; decide)
theorem aLw (t : LTerm) (ht : OkT t) (h6 : t.kind = 6): CT 201 [elT t] (.b (cB t)) := by
 refine dK (rx := true) (th := fun i => if i = 19 then some ⟨some 1, [], false, false, false, [], []⟩ else none) mixed Tryz.func201 g0 ?_
 · simp -implicitDefEqProofs (disch := omega) only [Tryz.f201, go_sem, List.replicate, simprocAttr]
   have no1 := aQj t.text
   (refine zy2 (zA2 h6 (zA2 @decide_true @decide_false)) (I4 t.text ht.text) (I4 t.sort ht.sort) ?_; repeat' first | exact trivial | refine zJ ?_ ?_ | refine zH fun hc => ?_)
   all_goals try simp only [yT, yU, oV, oU] at *
   all_goals refine aE ?_ rfl
   all_goals (simp_all [cB, sZ, eI, aZl, aQo]; done)
theorem aFg {t : LTerm} {so : Str} (hs : cY so = true) (h1 : t.rest.length = 1) (h6 : (t.rest.getD 0 default).kind = 6) : (cB (t.rest.getD 0 default) && cY (t.rest.getD 0 default).text && decide ((t.rest.getD 0 default).sort = so)) = oM t so := by
 have h0 : t.rest.length ≠ 0 := by omega
 generalize hr : t.rest.getD 0 default = r at *
 have h3 : oM t so = (cY r.text && decide (r.sort = so) && eI r false true true false false) := by
   simp only [oM, hr, h1, h6, decide_true, Nat.one_ne_zero, decide_false, cI, Bool.true_and]
 rw [h3]
 have h4 : cB r = (if sZ r.text = true then decide (r.sort = aEa) && eI r false true true false false else cY r.text && cY r.sort && eI r false true true false false) := by
   simp only [cB, h6]; rfl
 rw [h4]
 cases ho : sZ r.text with
 | true => rw [aYu ho]; simp
 | false =>
   by_cases hq : r.sort = so
   · rw [hq, hs]; cases cY r.text <;> cases eI r false true true false false <;> simp
   · simp [hq]
theorem aVy (t : LTerm) (so : Str) (ht : OkT t) (hso : cY so = true): CT 236 [elT t, .s so] (.b (oM t so)) := by
 refine aF mixed Tryz.func236 g0 ?_
 · skip
   have h1 : 0 < t.rest.length → OkT (t.rest.getD 0 default) := fun h => ht.rst _ (bB h)
   have hA := fun a b => aFg (t := t) hso a b
   (repeat' (first | refine gT ?_ ?_ | refine gF ?_ ?_ | refine gC ?_ ?_ | ((first | (refine aW (aLw (t.rest.getD 0 default) (h1 (by omega)) (by assumption)) ?_ ?_; (focus (simp -implicitDefEqProofs (disch := omega) only [zdB, go_sem, simprocAttr]; done))) | (refine aW (I4 (t.rest.getD 0 default).text (h1 (by omega)).text) ?_ ?_; (focus (simp -implicitDefEqProofs (disch := omega) only [zdB, go_sem, simprocAttr]; done)))); simp -implicitDefEqProofs (disch := omega) only [go_sem, simprocAttr]) | refine aV (by omega) ?_ | (intro hr; have hc := hr; (try simp only [zdz] at hc); simp -implicitDefEqProofs (disch := omega) only [hr, go_sem, simprocAttr]; (try clear hr))))
   all_goals try simp only [yT, yU] at *
   all_goals refine aE ?_ rfl
   all_goals first
     | (have e := hA (by assumption) (by assumption); clear hA; rw [← e]; clear e; simp_all only [decide_true, decide_false, cQ, cI, Bool.true_and, Bool.false_and, Bool.and_false, Bool.and_true]; done)
     | (clear hA; simp_all only [oM, decide_true, decide_false, cQ, cI, Bool.true_and, Bool.false_and, Bool.and_false, Bool.and_true, Nat.one_ne_zero]; done)
theorem aZi {t : LTerm} (h : t.kind = 1) : cB t = (lV t.n && eI t true false false false false) := by simp only [cB, h]; rfl
theorem aZh {t : LTerm} (h : t.kind = 2) : cB t = ((decide (t.n = 0) || decide (t.n = 1)) && eI t true false false false false) := by simp only [cB, h]; rfl
theorem aZg {t : LTerm} (h : t.kind = 3) : cB t = (vW t.text && eI t false true false false false) := by simp only [cB, h]; rfl
theorem aZf {t : LTerm} (h : t.kind = 4) : cB t = (aVb t.text && eI t false true false false false) := by simp only [cB, h]; rfl
theorem aZe {t : LTerm} (h : t.kind = 5) : cB t = (C3 t.text && decide (t.kids.length ≤ 8) && eI t false true false true false) := by simp only [cB, h]; rfl
theorem aZd {t : LTerm} (h : t.kind = 7) : cB t = (oM t pW && eI t false false false true true) := by simp only [cB, h]; rfl
theorem aZc {t : LTerm} (h : t.kind = 8) : cB t = (oM t yE && decide (t.kids.length % 2 = 0) && eI t false false false true true) := by simp only [cB, h]; rfl
theorem aZp {α : Type} {l : List α} : l.length = 0 ↔ l = [] := List.length_eq_zero_iff
theorem aSl (t : LTerm) (ht : OkT t) (hk : t.kind = 1): CT 201 [elT t] (.b (cB t)) := by
 refine dK (rx := true) (th := fun i => if i = 19 then some ⟨some 1, [], false, false, false, [], []⟩ else none) mixed Tryz.func201 g0 ?_
 · simp -implicitDefEqProofs (disch := omega) only [Tryz.f201, go_sem, List.replicate, simprocAttr]
   (refine zy1 (zA2 hk (zA2 @decide_true @decide_false)) (aWb t.n) ?_; repeat' first | exact trivial | refine zJ ?_ ?_ | refine zH fun hc => ?_)
   all_goals try simp only [yT, yU, oV, oU, aZp] at *
   all_goals refine aE ?_ rfl
   all_goals rw [aZi hk]
   all_goals clear ht
   all_goals first
     | (simp_all only [eI, lV, decide_true, decide_false, cQ, cI, Bool.true_and, Bool.false_and, Bool.and_false, Bool.and_true, cR, bZ, not_true_eq_false, not_false_eq_true]; done)
     | (simp_all [eI, lV] <;> (intros; omega))
theorem aSk (t : LTerm) (ht : OkT t) (hk : t.kind = 2): CT 201 [elT t] (.b (cB t)) := by
 refine dK (rx := true) (th := fun i => if i = 19 then some ⟨some 1, [], false, false, false, [], []⟩ else none) mixed Tryz.func201 g0 ?_
 · simp -implicitDefEqProofs (disch := omega) only [Tryz.f201, go_sem, List.replicate, simprocAttr]
   (refine zy1 (zA2 hk (zA2 @decide_true @decide_false)) (aWb t.n) ?_; repeat' first | exact trivial | refine zJ ?_ ?_ | refine zH fun hc => ?_)
   all_goals try simp only [yT, yU, oV, oU, aZp] at *
   all_goals refine aE ?_ rfl
   all_goals rw [aZh hk]
   all_goals clear ht
   all_goals first
     | (simp_all only [eI, lV, decide_true, decide_false, cQ, cI, Bool.true_and, Bool.false_and, Bool.and_false, Bool.and_true, cR, bZ, not_true_eq_false, not_false_eq_true]; done)
     | (simp_all [eI, lV] <;> (intros; omega))
theorem aSj (t : LTerm) (ht : OkT t) (hk : t.kind = 3): CT 201 [elT t] (.b (cB t)) := by
 refine dK (rx := true) (th := fun i => if i = 19 then some ⟨some 1, [], false, false, false, [], []⟩ else none) mixed Tryz.func201 g0 ?_
 · simp -implicitDefEqProofs (disch := omega) only [Tryz.f201, go_sem, List.replicate, simprocAttr]
   (refine zy1 (zA2 hk (zA2 @decide_true @decide_false)) (bHk t.text ht.text) ?_; repeat' first | exact trivial | refine zJ ?_ ?_ | refine zH fun hc => ?_)
   all_goals try simp only [yT, yU, oV, oU, aZp] at *
   all_goals refine aE ?_ rfl
   all_goals rw [aZg hk]
   all_goals clear ht
   all_goals first
     | (simp_all only [eI, lV, decide_true, decide_false, cQ, cI, Bool.true_and, Bool.false_and, Bool.and_false, Bool.and_true, cR, bZ, not_true_eq_false, not_false_eq_true]; done)
     | (simp_all [eI, lV] <;> (intros; omega))
theorem aSi (t : LTerm) (ht : OkT t) (hk : t.kind = 4): CT 201 [elT t] (.b (cB t)) := by
 refine dK (rx := true) (th := fun i => if i = 19 then some ⟨some 1, [], false, false, false, [], []⟩ else none) mixed Tryz.func201 g0 ?_
 · simp -implicitDefEqProofs (disch := omega) only [Tryz.f201, go_sem, List.replicate, simprocAttr]
   (refine zy1 (zA2 hk (zA2 @decide_true @decide_false)) (bHc t.text ht.text) ?_; repeat' first | exact trivial | refine zJ ?_ ?_ | refine zH fun hc => ?_)
   all_goals try simp only [yT, yU, oV, oU, aZp] at *
   all_goals refine aE ?_ rfl
   all_goals rw [aZf hk]
   all_goals clear ht
   all_goals first
     | (simp_all only [eI, lV, decide_true, decide_false, cQ, cI, Bool.true_and, Bool.false_and, Bool.and_false, Bool.and_true, cR, bZ, not_true_eq_false, not_false_eq_true]; done)
     | (simp_all [eI, lV] <;> (intros; omega))
theorem aSh (t : LTerm) (ht : OkT t) (hk : t.kind = 5): CT 201 [elT t] (.b (cB t)) := by
 refine dK (rx := true) (th := fun i => if i = 19 then some ⟨some 1, [], false, false, false, [], []⟩ else none) mixed Tryz.func201 g0 ?_
 · simp -implicitDefEqProofs (disch := omega) only [Tryz.f201, go_sem, List.replicate, simprocAttr]
   (refine zy1 (zA2 hk (zA2 @decide_true @decide_false)) (aVz t.text ht.text) ?_; repeat' first | exact trivial | refine zJ ?_ ?_ | refine zH fun hc => ?_)
   all_goals try simp only [yT, yU, oV, oU, aZp] at *
   all_goals refine aE ?_ rfl
   all_goals rw [aZe hk]
   all_goals clear ht
   all_goals first
     | (simp_all only [eI, lV, decide_true, decide_false, cQ, cI, Bool.true_and, Bool.false_and, Bool.and_false, Bool.and_true, cR, bZ, not_true_eq_false, not_false_eq_true]; done)
     | (simp_all [eI, lV] <;> (intros; omega))
theorem aSg (t : LTerm) (ht : OkT t) (hk : t.kind = 7): CT 201 [elT t] (.b (cB t)) := by
 refine dK (rx := true) (th := fun i => if i = 19 then some ⟨some 1, [], false, false, false, [], []⟩ else none) mixed Tryz.func201 g0 ?_
 · simp -implicitDefEqProofs (disch := omega) only [Tryz.f201, go_sem, List.replicate, simprocAttr]
   (refine zy1 (zA2 hk (zA2 @decide_true @decide_false)) (aVy t pW ht (by decide)) ?_; repeat' first | exact trivial | refine zJ ?_ ?_ | refine zH fun hc => ?_)
   all_goals try simp only [yT, yU, oV, oU, aZp] at *
   all_goals refine aE ?_ rfl
   all_goals rw [aZd hk]
   all_goals clear ht
   all_goals first
     | (simp_all only [eI, lV, decide_true, decide_false, cQ, cI, Bool.true_and, Bool.false_and, Bool.and_false, Bool.and_true, cR, bZ, not_true_eq_false, not_false_eq_true]; done)
     | (simp_all [eI, lV] <;> (intros; omega))
theorem aSf (t : LTerm) (ht : OkT t) (hk : t.kind = 8): CT 201 [elT t] (.b (cB t)) := by
 refine dK (rx := true) (th := fun i => if i = 19 then some ⟨some 1, [], false, false, false, [], []⟩ else none) mixed Tryz.func201 g0 ?_
 · simp -implicitDefEqProofs (disch := omega) only [Tryz.f201, go_sem, List.replicate, simprocAttr]
   (refine zy1 (zA2 hk (zA2 @decide_true @decide_false)) (aVy t yE ht (by decide)) ?_; repeat' first | exact trivial | refine zJ ?_ ?_ | refine zH fun hc => ?_)
   all_goals try simp only [yT, yU, oV, oU, aZp] at *
   all_goals refine aE ?_ rfl
   all_goals rw [aZc hk]
   all_goals clear ht
   all_goals first
     | (simp_all only [eI, lV, decide_true, decide_false, cQ, cI, Bool.true_and, Bool.false_and, Bool.and_false, Bool.and_true, cR, bZ, not_true_eq_false, not_false_eq_true]; done)
     | (simp_all [eI, lV] <;> (intros; omega))
theorem aSm (t : LTerm) (h1 : ¬ t.kind = 1) (h2 : ¬ t.kind = 2) (h3 : ¬ t.kind = 3) (h4 : ¬ t.kind = 4) (h5 : ¬ t.kind = 5) (h6 : ¬ t.kind = 6) (h7 : ¬ t.kind = 7) (h8 : ¬ t.kind = 8): CT 201 [elT t] (.b (cB t)) := by
 refine dK (rx := true) (th := fun i => if i = 19 then some ⟨some 1, [], false, false, false, [], []⟩ else none) mixed Tryz.func201 g0 ?_
 · simp -implicitDefEqProofs (disch := omega) only [Tryz.f201, go_sem, List.replicate, simprocAttr]
   have hn : cB t = false := by simp only [cB, h1, h2, h3, h4, h5, h6, h7, h8, if_false]
   (refine zx0 (zA2 h1 (zA2 h2 (zA2 h3 (zA2 h4 (zA2 h5 (zA2 h6 (zA2 h7 (zA2 h8 (zA2 @decide_true @decide_false))))))))) ?_; repeat' first | exact trivial | refine zJ ?_ ?_ | refine zH fun hc => ?_)
   all_goals exact aE (by rw [hn]) rfl
theorem bHh (t : LTerm) (ht : OkT t) : CT 201 [elT t] (.b (cB t)) := by
 by_cases h1 : t.kind = 1
 · exact aSl t ht h1
 by_cases h2 : t.kind = 2
 · exact aSk t ht h2
 by_cases h3 : t.kind = 3
 · exact aSj t ht h3
 by_cases h4 : t.kind = 4
 · exact aSi t ht h4
 by_cases h5 : t.kind = 5
 · exact aSh t ht h5
 by_cases h6 : t.kind = 6
 · exact aLw t ht h6
 by_cases h7 : t.kind = 7
 · exact aSg t ht h7
 by_cases h8 : t.kind = 8
 · exact aSf t ht h8
 exact aSm t h1 h2 h3 h4 h5 h6 h7 h8
end Go.Proofs.YtifefbhllfdmlaaGreatDoor
namespace Go.Vo
section
variable (p : LTerm → Bool)
mutual
def kM : LTerm → Int → Int → Int × Bool
 | .mk k n t s ks rs, d, m =>
   if (decide (d ≤ 60) && decide (m + 1 ≤ 2000) && p (.mk k n t s ks rs)) = true then
     (if (lookL ks (d + 1) (m + 1)).2 = true then ((lookL ks (d + 1) (m + 1)).1 + rs.length, decide (rs.length = 0) || (decide (d < 60) && decide ((lookL ks (d + 1) (m + 1)).1 + rs.length ≤ 2000))) else ((lookL ks (d + 1) (m + 1)).1, false))
   else (m + 1, false)
def lookL : List LTerm → Int → Int → Int × Bool
 | [], d, m => (m, true)
 | k :: l, d, m => if (kM k d m).2 = true then lookL l d (kM k d m).1 else ((kM k d m).1, false)
end
mutual
def fK : LTerm → Int → Int → Bool × Int
 | .mk k n t s ks rs, d, left =>
   if (decide (left - (1 + rs.length) < 0) || decide (d < 1) || (decide (0 < rs.length) && decide (d < 2)) || !p (.mk k n t s ks rs)) = true then (false, left - (1 + rs.length)) else formedL ks (d - 1) (left - (1 + rs.length))
def formedL : List LTerm → Int → Int → Bool × Int
 | [], d, left => (true, left)
 | k :: l, d, left => if (fK k d left).1 = true then formedL l d (fK k d left).2 else (false, (fK k d left).2)
end
mutual
def wfT : LTerm → Bool
 | .mk k n t s ks rs => p (.mk k n t s ks rs) && wfL ks
def wfL : List LTerm → Bool
 | [] => true
 | k :: l => wfT k && wfL l
end
end
mutual
def nodesT : LTerm → Nat
 | .mk k n t s ks rs => 1 + rs.length + nodesL ks
def nodesL : List LTerm → Nat
 | [] => 0
 | k :: l => nodesT k + nodesL l
end
mutual
def highT : LTerm → Nat
 | .mk k n t s ks rs => 1 + max rs.length (highL ks)
def highL : List LTerm → Nat
 | [] => 0
 | k :: l => max (highT k) (highL l)
end
section
variable {p : LTerm → Bool}
mutual
theorem uL (hp : ∀ t, p t = true → t.rest.length ≤ 1) : ∀ (t : LTerm) (d m : Int), ((kM p t d m).2 = true ↔ wfT p t = true ∧ d + highT t ≤ 61 ∧ m + nodesT t ≤ 2000) ∧ ((kM p t d m).2 = true → (kM p t d m).1 = m + nodesT t)
 | .mk k n t s ks rs, d, m => by
   rw [kM, wfT, highT, nodesT]
   split
   · rename_i hc
     simp only [aB, decide_eq_true_eq] at hc
     obtain ⟨⟨h1, h2⟩, h3⟩ := hc
     have hr := hp _ h3
     simp only [LTerm.rest] at hr
     obtain ⟨i1, i2⟩ := lookL_spec hp ks (d + 1) (m + 1) (by omega) (by omega)
     rw [h3, Bool.true_and]
     split
     · rename_i hl
       have e := i2 hl
       obtain ⟨w, w2, w3⟩ := i1.1 hl
       simp only [bK, aB, decide_eq_true_eq, w, true_and, e]
       exact ⟨by omega, fun _ => by omega⟩
     · rename_i hl
       refine ⟨⟨(fun h => by cases h), fun ⟨a, b, c⟩ => ?_⟩, fun h => by cases h⟩
       exact absurd (i1.2 ⟨a, by omega, by omega⟩) hl
   · rename_i hc
     refine ⟨⟨(fun h => by cases h), fun ⟨a, b, c⟩ => ?_⟩, fun h => by cases h⟩
     exfalso
     refine hc ?_
     simp only [aB, decide_eq_true_eq] at a ⊢
     exact ⟨⟨by omega, by omega⟩, a.1⟩
theorem lookL_spec (hp : ∀ t, p t = true → t.rest.length ≤ 1) : ∀ (l : List LTerm) (d m : Int), d ≤ 61 → m ≤ 2000 → ((lookL p l d m).2 = true ↔ wfL p l = true ∧ d + highL l ≤ 61 ∧ m + nodesL l ≤ 2000) ∧ ((lookL p l d m).2 = true → (lookL p l d m).1 = m + nodesL l)
 | [], d, m, hd, hm => by
   rw [lookL, wfL, highL, nodesL]
   exact ⟨⟨fun _ => ⟨rfl, by omega, by omega⟩, fun _ => rfl⟩, fun _ => by omega⟩
 | k :: l, d, m, hd, hm => by
   obtain ⟨i1, i2⟩ := uL hp k d m
   rw [lookL, wfL, highL, nodesL]
   split
   · rename_i hk
     have e := i2 hk
     obtain ⟨w, w2, w3⟩ := i1.1 hk
     obtain ⟨j1, j2⟩ := lookL_spec hp l d (kM p k d m).1 hd (by omega)
     rw [w, Bool.true_and, j1]
     exact ⟨⟨fun ⟨a, b, c⟩ => ⟨a, by omega, by omega⟩, fun ⟨a, b, c⟩ => ⟨a, by omega, by omega⟩⟩, fun h => by have := j2 (j1.2 h); omega⟩
   · rename_i hk
     refine ⟨⟨(fun h => by cases h), fun ⟨a, b, c⟩ => ?_⟩, fun h => by cases h⟩
     rw [aB] at a
     exact absurd (i1.2 ⟨a.1, by omega, by omega⟩) hk
end
mutual
theorem qC (hp : ∀ t, p t = true → t.rest.length ≤ 1) : ∀ (t : LTerm) (d m : Int), ((fK p t d m).1 = true ↔ wfT p t = true ∧ (highT t : Int) ≤ d ∧ (nodesT t : Int) ≤ m) ∧ ((fK p t d m).1 = true → (fK p t d m).2 = m - nodesT t)
 | .mk k n t s ks rs, d, m => by
   rw [fK, wfT, highT, nodesT]
   split
   · rename_i hc
     refine ⟨⟨(fun h => by cases h), fun ⟨h1, h2, h3⟩ => ?_⟩, fun h => by cases h⟩
     exfalso
     simp only [aB, bK, decide_eq_true_eq, bQ] at h1 hc
     rcases hc with ((hc | hc) | ⟨hc, hc'⟩) | hc
     · omega
     · omega
     · omega
     · rw [h1.1] at hc; cases hc
   · rename_i hc
     simp only [bK, aB, decide_eq_true_eq, bQ, not_or, not_and, Bool.not_eq_false] at hc
     obtain ⟨⟨⟨h1, h2⟩, h4⟩, h3⟩ := hc
     have hr := hp _ h3
     simp only [LTerm.rest] at hr
     obtain ⟨i1, i2⟩ := formedL_spec hp ks (d - 1) (m - (1 + rs.length)) (by omega) (by omega)
     rw [h3, Bool.true_and, i1]
     exact ⟨⟨fun ⟨a, b, c⟩ => ⟨a, by omega, by omega⟩, fun ⟨a, b, c⟩ => ⟨a, by omega, by omega⟩⟩, fun h => by have := i2 (i1.2 h); omega⟩
theorem formedL_spec (hp : ∀ t, p t = true → t.rest.length ≤ 1) : ∀ (l : List LTerm) (d m : Int), 0 ≤ d → 0 ≤ m → ((formedL p l d m).1 = true ↔ wfL p l = true ∧ (highL l : Int) ≤ d ∧ (nodesL l : Int) ≤ m) ∧ ((formedL p l d m).1 = true → (formedL p l d m).2 = m - nodesL l)
 | [], d, m, hd, hm => by
   rw [formedL, wfL, highL, nodesL]
   exact ⟨⟨fun _ => ⟨rfl, by omega, by omega⟩, fun _ => rfl⟩, fun _ => by omega⟩
 | k :: l, d, m, hd, hm => by
   obtain ⟨i1, i2⟩ := qC hp k d m
   rw [formedL, wfL, highL, nodesL]
   split
   · rename_i hk
     have e := i2 hk
     obtain ⟨w, w2, w3⟩ := i1.1 hk
     obtain ⟨j1, j2⟩ := formedL_spec hp l d (fK p k d m).2 hd (by omega)
     rw [w, Bool.true_and, j1]
     exact ⟨⟨fun ⟨a, b, c⟩ => ⟨a, by omega, by omega⟩, fun ⟨a, b, c⟩ => ⟨a, by omega, by omega⟩⟩, fun h => by have := j2 (j1.2 h); omega⟩
   · rename_i hk
     refine ⟨⟨(fun h => by cases h), fun ⟨a, b, c⟩ => ?_⟩, fun h => by cases h⟩
     rw [aB] at a
     exact absurd (i1.2 ⟨a.1, by omega, by omega⟩) hk
end
def eS (p : LTerm → Bool) (t : LTerm) : Bool := wfT p t && decide (highT t ≤ 60) && decide (nodesT t ≤ 2000)
theorem aFs (hp : ∀ t, p t = true → t.rest.length ≤ 1) (t : LTerm) : (kM p t 1 0).2 = eS p t := by
 rw [cA, (uL hp t 1 0).1, eS]
 simp only [aB, decide_eq_true_eq]
 exact ⟨fun ⟨a, b, c⟩ => ⟨⟨a, by omega⟩, by omega⟩, fun ⟨⟨a, b⟩, c⟩ => ⟨a, by omega, by omega⟩⟩
theorem R4 (hp : ∀ t, p t = true → t.rest.length ≤ 1) (t : LTerm) : (fK p t 60 2000).1 = eS p t := by
 rw [cA, (qC hp t 60 2000).1, eS]
 simp only [aB, decide_eq_true_eq]
 exact ⟨fun ⟨a, b, c⟩ => ⟨⟨a, by omega⟩, by omega⟩, fun ⟨⟨a, b⟩, c⟩ => ⟨a, by omega, by omega⟩⟩
end
end Go.Vo
namespace Go.Proofs.YtifefbhllfdmlaaGreatDoor
open Go Go.Vo
open Nat (reduceAdd reduceSub reduceMul reduceLeDiff reduceLT reduceEqDiff)
open Int (reduceNeg)

theorem aCd (p : LTerm → Bool) (t : LTerm) (d m : Int) : kM p t d m = if (decide (d ≤ 60) && decide (m + 1 ≤ 2000) && p t) = true then (if (lookL p t.kids (d + 1) (m + 1)).2 = true then ((lookL p t.kids (d + 1) (m + 1)).1 + t.rest.length, decide (t.rest.length = 0) || (decide (d < 60) && decide ((lookL p t.kids (d + 1) (m + 1)).1 + t.rest.length ≤ 2000))) else ((lookL p t.kids (d + 1) (m + 1)).1, false)) else (m + 1, false) := by
 cases t; rw [kM]; rfl
theorem aQt {p : LTerm → Bool} {l : List LTerm} {k : Nat} {d m : Int} (h : k < l.length) : lookL p (l.drop k) d m = if (kM p (l.getD k default) d m).2 = true then lookL p (l.drop (k + 1)) d (kM p (l.getD k default) d m).1 else ((kM p (l.getD k default) d m).1, false) := by
 rw [bO h, lookL]; simp [List.getD, h]
theorem aQs {p : LTerm → Bool} {t : LTerm} {d m : Int} (hp : ∀ t, p t = true → t.rest.length ≤ 1) (hm : 0 ≤ m) (h : (kM p t d m).2 = true) : 0 ≤ (kM p t d m).1 ∧ (kM p t d m).1 ≤ 2000 := by
 have s := uL hp t d m
 rw [s.2 h]
 have := s.1.1 h
 omega
theorem Z4 {p : LTerm → Bool} {t : LTerm} {d m : Int} (h : (decide (d ≤ 60) && decide (m + 1 ≤ 2000) && p t) = false) : kM p t d m = (m + 1, false) := by
 rw [aCd, if_neg (by rw [h]; simp)]
abbrev aUa (t : LTerm) (d m : Int) : AV → List AObj → Prop := fun r h' => r = .tup [] ∧ ∃ g, h' = .box false [.i .i64 (kM cB t d m).1, .b (kM cB t d m).2] :: g
theorem tE {t : LTerm} {d m a : Int} {b : Bool} {h g : List AObj} (e : kM cB t d m = (a, b)) (hh : h = .box false [.i .i64 a, .b b] :: g) : aUa t d m (.tup []) h := ⟨rfl, g, by rw [e]; exact hh⟩
def xL (d m : Int) (j : Nat) : Bool := decide (j = 0) || (decide (d < 60) && decide (m + j ≤ 2000))
@[simp] theorem bKl {d m : Int} : xL d m 0 = true := by simp [xL]
theorem rO {d m : Int} {j : Nat} : xL d m (j + 1) = (xL d m j && decide (d < 60) && decide (m + j + 1 ≤ 2000)) := by
 rw [cA]
 simp only [xL, bK, aB, decide_eq_true_eq]
 omega
theorem bLt (t : LTerm) (d m : Int) (ht : OkT t) (hm0 : 0 ≤ m) (hm : m ≤ 2000) (hd0 : 0 ≤ d) (hd : d ≤ 100) (ih : ∀ k ∈ t.kids, ∀ (d m : Int), 0 ≤ m → m ≤ 2000 → 0 ≤ d → d ≤ 100 → ACalls Tryz.prog G0 156 [.ptr 0 0, elT k, .i .i64 d] [.box false [.i .i64 m, .b true]] (aUa k d m)): ACalls Tryz.prog G0 156 [.ptr 0 0, elT t, .i .i64 d] [.box false [.i .i64 m, .b true]] (aUa t d m) := by
 refine dH (rx := false) (th := fun _ => none) mixed Tryz.func156 ?_
 · simp -implicitDefEqProofs (disch := omega) only [Tryz.f156, go_sem, List.replicate, simprocAttr]
   have hk1 := ht.kids
   have hr1 := ht.rest
   have c := bHh t ht
   cases hnb : cB t with
   | false =>
     rw [hnb] at c
     (refine zt1 c ?_; repeat' first | exact trivial | refine zJ ?_ ?_ | refine zH fun hc => ?_)
     all_goals exact tE (Z4 (by simp only [hnb, Bool.and_false])) rfl
   | true =>
   rw [hnb] at c
   (refine zt1 c ?_; repeat' first | exact trivial | refine zJ ?_ ?_ | refine zH fun hc => ?_)
   rotate_left
   · exact tE (Z4 (by simp only [*, decide_true, decide_false, Bool.false_and, Bool.and_false, Bool.true_and])) rfl
   · exact tE (Z4 (by simp only [*, decide_true, decide_false, Bool.false_and, Bool.and_false, Bool.true_and])) rfl
   have hif : kM cB t d m = _ := aCd cB t d m
   rw [if_pos (by simp only [*, decide_true, dN])] at hif
   refine eJ (fun (s : Nat × Int) => [.k, .k, .k, .k, .k, .k, .k, .j, .k, .k, .k, .k, .k, .k, .k, .k, .k, .k, .k, .k, .k, .k, .k, .k, .k, .k, .k, .k, .k, .k, .k, .k, .k, .k, .k, .k, .k, .k, .k, .k, .k, .k, .k, .k, .k, .v (.i .i64 (s.1 : Nat)), .j, .j, .j, .j, .j, .j, .j, .j, .j, .j, .j, .j, .j, .j, .k, .k, .k, .k, .k, .k, .k, .k, .k, .k, .k, .k, .k, .k, .k, .k, .k, .k, .k, .k, .k, .k, .k, .k, .k, .k, .k, .k, .k, .k, .k]) (fun s => [.box false [.i .i64 s.2, .b true], .box false [.i .i64 (t).kind, .i .i64 (t).n, .s (t).text, .s (t).sort, .sl ((t).kids.flatMap aC) (t).kids.length, .sl ((t).rest.flatMap aC) (t).rest.length]]) (fun s => s.1 ≤ t.kids.length ∧ lookL cB t.kids (d + 1) (m + 1) = lookL cB (t.kids.drop s.1) (d + 1) s.2 ∧ 0 ≤ s.2 ∧ s.2 ≤ 2000) (fun s => t.kids.length - s.1) ((0, m + 1)) _ ⟨aG _, rfl, by dsimp only; omega, by dsimp only; omega⟩ rfl (by simp [eN]) ?_
   rintro ⟨k, m2⟩ g j ⟨hk, hL, hm20, hm2⟩
   dsimp only at hk hL hm20 hm2
   refine zg ?_
   (refine zs0 ?_; repeat' first | exact trivial | refine zJ ?_ ?_ | refine zH fun hc => ?_)
   · have hlt : k < t.kids.length := by omega
     rw [aQt hlt] at hL
     refine aSx 0 g0 (ih _ (bB (d := default) hlt) (d + 1) m2 hm20 hm2 (by omega) (by omega)) rfl rfl rfl rfl ?_ ?_
     · simp only [renL, ren, elT, bA, avt, renL_pers _ _ lQ, aRs]
     · intro g2
       refine zg ?_
       (refine zs0 ?_; repeat' first | exact trivial | refine zJ ?_ ?_ | refine zH fun hc => ?_)
       · rw [if_neg (by rw [show (kM cB (t.kids.getD k default) (d + 1) m2).2 = false from hc]; simp)] at hL
         rw [hL, if_neg (by simp)] at hif
         rw [show (kM cB (t.kids.getD k default) (d + 1) m2).2 = false from hc]
         exact tE hif rfl
       · have e : (kM cB (t.kids.getD k default) (d + 1) m2).2 = true := hc
         rw [if_pos e] at hL
         have hle := aQs nV hm20 e
         rw [e]
         exact ⟨(k + 1, (kM cB (t.kids.getD k default) (d + 1) m2).1), _, ⟨by dsimp only; omega, hL, hle.1, hle.2⟩, by dsimp only; omega, rfl, by simp⟩
   · rw [bF (by omega), lookL] at hL
     rw [hL, if_pos rfl] at hif
     refine bP (fun (i : Nat) => [.k, .k, .k, .k, .k, .k, .k, .k, .k, .k, .k, .k, .k, .k, .k, .k, .k, .k, .k, .k, .k, .k, .k, .k, .k, .k, .k, .k, .k, .k, .k, .k, .k, .k, .k, .k, .k, .k, .k, .k, .k, .k, .k, .k, .k, .k, .k, .k, .k, .k, .k, .k, .k, .k, .k, .k, .k, .k, .k, .k, .k, .k, .k, .v (.i .i64 (i : Nat)), .j, .j, .j, .j, .j, .j, .j, .j, .j, .j, .j, .j, .j, .j, .j, .j, .j, .j, .j, .j, .j, .j, .j, .j, .j, .j, .j]) (fun i => .box false [.i .i64 (m2 + (i : Nat)), .b (xL d m2 i)] :: .box false [.i .i64 (t).kind, .i .i64 (t).n, .s (t).text, .s (t).sort, .sl ((t).kids.flatMap aC) (t).kids.length, .sl ((t).rest.flatMap aC) (t).rest.length] :: g) (fun i => i ≤ t.rest.length) (fun i => t.rest.length - i) (0) (aG _) (by simp [avs, avb, avi, avo, bI]) (by simp [eN]) ?_
     rintro i j hi
     refine zg ?_
     (refine zs0 ?_; repeat' first | exact trivial | refine zJ ?_ ?_ | refine zH fun hc => ?_)
     · exact ⟨i + 1, by omega, by omega, by rw [rO, show xL d m2 i = true by assumption, Int.natCast_succ, ← Int.add_assoc]; simp only [Bool.true_and, zt hc], by simp⟩
     · exact ⟨i + 1, by omega, by omega, by rw [rO, Int.natCast_succ, ← Int.add_assoc]; simp only [zf hc, Bool.and_false, Bool.false_and], by simp⟩
     · exact ⟨i + 1, by omega, by omega, by rw [rO, hc, Int.natCast_succ, ← Int.add_assoc]; simp only [Bool.false_and], by simp⟩
     · have e : i = t.rest.length := by omega
       exact tE hif (by rw [e]; rfl)
theorem look : ∀ (t : LTerm), OkT t → ∀ (d m : Int), 0 ≤ m → m ≤ 2000 → 0 ≤ d → d ≤ 100 → ACalls Tryz.prog G0 156 [.ptr 0 0, elT t, .i .i64 d] [.box false [.i .i64 m, .b true]] (aUa t d m) :=
 dD fun t hk _ ht d m h1 h2 h3 h4 => bLt t d m ht h1 h2 h3 h4 (fun k hmem d m a b c e => hk k hmem (ht.kid k hmem) d m a b c e)
theorem aMa (t : LTerm) (ht : OkT t): CT 99 [elT t] (.b (eS cB t)) := by
 refine aF mixed Tryz.func99 g0 ?_
 · skip
   (refine zs0 ?_; repeat' first | exact trivial | refine zJ ?_ ?_ | refine zH fun hc => ?_)
   refine aSx 1 g0 (look t ht 1 0 (by decide) (by decide) (by decide) (by decide)) rfl rfl rfl rfl ?_ ?_
   · simp only [renL, ren, elT, bA, avt, renL_pers _ _ lQ, aRs]
   · intro g2
     refine zg ?_
     (refine zs0 ?_; repeat' first | exact trivial | refine zJ ?_ ?_ | refine zH fun hc => ?_)
     exact aE (by rw [aFs nV]) rfl

theorem aGb (p : LTerm → Bool) (t : LTerm) (d m : Int) : fK p t d m = if (decide (m - (1 + t.rest.length) < 0) || decide (d < 1) || (decide (0 < t.rest.length) && decide (d < 2)) || !p t) = true then (false, m - (1 + t.rest.length)) else formedL p t.kids (d - 1) (m - (1 + t.rest.length)) := by
 cases t; rw [fK]; rfl
theorem aGc {p : LTerm → Bool} {l : List LTerm} {k : Nat} {d m : Int} (h : k < l.length) : formedL p (l.drop k) d m = if (fK p (l.getD k default) d m).1 = true then formedL p (l.drop (k + 1)) d (fK p (l.getD k default) d m).2 else (false, (fK p (l.getD k default) d m).2) := by
 rw [bO h, formedL]; simp [List.getD, h]
theorem aGa {p : LTerm → Bool} {t : LTerm} {d m : Int} (hp : ∀ t, p t = true → t.rest.length ≤ 1) (hm : m ≤ 2000) (h : (fK p t d m).1 = true) : 0 ≤ (fK p t d m).2 ∧ (fK p t d m).2 ≤ 2000 := by
 have s := qC hp t d m
 rw [s.2 h]
 have := s.1.1 h
 omega
abbrev K5 (t : LTerm) (d m : Int) : AV → List AObj → Prop := fun r h' => r = .b (fK cB t d m).1 ∧ ∃ g, h' = .box false [.i .i64 (fK cB t d m).2] :: g
theorem nZ {t : LTerm} {d m a : Int} {b : Bool} {h g : List AObj} (e : fK cB t d m = (b, a)) (hh : h = .box false [.i .i64 a] :: g) : K5 t d m (.b b) h := ⟨by rw [e], g, by rw [e]; exact hh⟩
theorem bAd (t : LTerm) (d m : Int) (ht : OkT t) (hm0 : 0 ≤ m) (hm : m ≤ 2000) (hd0 : 0 ≤ d) (hd : d ≤ 100) (ih : ∀ k ∈ t.kids, ∀ (d m : Int), 0 ≤ m → m ≤ 2000 → 0 ≤ d → d ≤ 100 → ACalls Tryz.prog G0 213 [elT k, .i .i64 d, .ptr 0 0] [.box false [.i .i64 m]] (K5 k d m)): ACalls Tryz.prog G0 213 [elT t, .i .i64 d, .ptr 0 0] [.box false [.i .i64 m]] (K5 t d m) := by
 refine dH (rx := false) (th := fun _ => none) mixed Tryz.func213 ?_
 · simp -implicitDefEqProofs (disch := omega) only [Tryz.f213, go_sem, List.replicate, simprocAttr]
   have hk1 := ht.kids
   have hr1 := ht.rest
   have c := bHd t ht
   have e := aGb cB t d m
   rw [show decide (0 < t.rest.length) = decide (0 < (t.rest.length : Int)) by simp] at e
   have w1 : IntKind.i64.wrap (1 + (t.rest.length : Int)) = 1 + t.rest.length := wrap64 (by omega) (by omega)
   have w2 : IntKind.i64.wrap (m - (1 + (t.rest.length : Int))) = m - (1 + t.rest.length) := wrap64 (by omega) (by omega)
   cases hnb : cB t with
   | false =>
     rw [hnb] at c
     rw [hnb, Bool.not_false, cR, if_pos rfl] at e
     (refine zy1 (zA2 w1 w2) c ?_; repeat' first | exact trivial | refine zJ ?_ ?_ | refine zH fun hc => ?_)
     all_goals first
       | exact nZ e rfl
       | (exfalso; simp only [w1, w2] at *; omega)
   | true =>
   rw [hnb] at c
   rw [hnb, Bool.not_true, bZ] at e
   (refine zy1 (zA2 w1 w2) c ?_; repeat' first | exact trivial | refine zJ ?_ ?_ | refine zH fun hc => ?_)
   all_goals try (exfalso; simp only [w1, w2] at *; omega)
   all_goals try exact nZ (e.trans (if_pos (by simp only [*, decide_true, decide_false, cQ, cR, cI, Bool.true_and, Bool.false_and]))) rfl
   all_goals try exact nZ (e.trans (if_pos (by simp [*]))) rfl
   all_goals
     rw [if_neg (by simp only [*, decide_true, decide_false, cQ, cR, bZ, cI, Bool.true_and, Bool.false_and, aP, not_false_eq_true]; try omega)] at e
     refine eJ (fun (s : Nat × Int) => [.k, .k, .k, .k, .k, .k, .j, .k, .j, .k, .k, .k, .k, .k, .k, .k, .k, .k, .k, .k, .k, .k, .k, .k, .k, .k, .k, .k, .k, .k, .k, .k, .k, .k, .k, .k, .k, .k, .k, .k, .k, .k, .k, .k, .v (.i .i64 (s.1 : Nat)), .j, .j, .j, .j, .j, .j, .j, .j, .j, .j]) (fun s => [.box false [.i .i64 s.2], .box false [.i .i64 (t).kind, .i .i64 (t).n, .s (t).text, .s (t).sort, .sl ((t).kids.flatMap aC) (t).kids.length, .sl ((t).rest.flatMap aC) (t).rest.length]]) (fun s => s.1 ≤ t.kids.length ∧ formedL cB t.kids (d - 1) (m - (1 + t.rest.length)) = formedL cB (t.kids.drop s.1) (d - 1) s.2 ∧ 0 ≤ s.2 ∧ s.2 ≤ 2000) (fun s => t.kids.length - s.1) ((0, m - (1 + t.rest.length))) _ ⟨aG _, rfl, by dsimp only; omega, by dsimp only; omega⟩ rfl (by simp [eN]) ?_
     rintro ⟨k, m2⟩ g j ⟨hk, hL, hm20, hm2⟩
     dsimp only at hk hL hm20 hm2
     refine zg ?_
     (refine zs0 ?_; repeat' first | exact trivial | refine zJ ?_ ?_ | refine zH fun hc => ?_)
     · have hlt : k < t.kids.length := by omega
       rw [aGc hlt] at hL
       refine aSx 0 g0 (ih _ (bB (d := default) hlt) (d - 1) m2 hm20 hm2 (by omega) (by omega)) rfl rfl rfl rfl ?_ ?_
       · simp only [renL, ren, elT, bA, avt, renL_pers _ _ lQ, aRs]
       · intro g2
         refine zg ?_
         (refine zs0 ?_; repeat' first | exact trivial | refine zJ ?_ ?_ | refine zH fun hc => ?_)
         · rw [if_neg (by rw [show (fK cB (t.kids.getD k default) (d - 1) m2).1 = false by assumption]; simp)] at hL
           exact nZ (e.trans hL) rfl
         · rw [if_pos (show (fK cB (t.kids.getD k default) (d - 1) m2).1 = true by assumption)] at hL
           have hle := aGa nV hm2 (show (fK cB (t.kids.getD k default) (d - 1) m2).1 = true by assumption)
           exact ⟨(k + 1, (fK cB (t.kids.getD k default) (d - 1) m2).2), _, ⟨by dsimp only; omega, hL, hle.1, hle.2⟩, by dsimp only; omega, rfl, by simp⟩
     · rw [bF (by omega), formedL] at hL
       exact nZ (e.trans hL) rfl
theorem bEv : ∀ (t : LTerm), OkT t → ∀ (d m : Int), 0 ≤ m → m ≤ 2000 → 0 ≤ d → d ≤ 100 → ACalls Tryz.prog G0 213 [elT t, .i .i64 d, .ptr 0 0] [.box false [.i .i64 m]] (K5 t d m) :=
 dD fun t hk _ ht d m h1 h2 h3 h4 => bAd t d m ht h1 h2 h3 h4 (fun k hmem d m a b c e => hk k hmem (ht.kid k hmem) d m a b c e)
theorem aDf (t : LTerm) (ht : OkT t): CT 171 [elT t] (.b (eS cB t)) := by
 refine aF mixed Tryz.func171 g0 ?_
 · skip
   (refine zs0 ?_; repeat' first | exact trivial | refine zJ ?_ ?_ | refine zH fun hc => ?_)
   refine aSx 1 g0 (bEv t ht 60 2000 (by decide) (by decide) (by decide) (by decide)) rfl rfl rfl rfl ?_ ?_
   · simp only [renL, ren, elT, bA, avt, renL_pers _ _ lQ, aRs]
   · intro g2
     refine zg ?_
     (refine zs0 ?_; repeat' first | exact trivial | refine zJ ?_ ?_ | refine zH fun hc => ?_)
     exact aE (by rw [R4 nV]) rfl

def A8 (n : Nat) (f : Nat → Bool) : Bool := (List.range n).all f
theorem jM {n : Nat} {f : Nat → Bool} (h : ∀ j, j < n → f j = true) : A8 n f = true := by
 simp only [A8, aL, gS]; exact h
theorem fX {n : Nat} {f : Nat → Bool} (j : Nat) (hj : j < n) (h : f j = false) : A8 n f = false := by
 rw [fF]; intro e; simp only [A8, aL, gS] at e; rw [e j hj] at h; cases h
theorem kI {n : Nat} {f : Nat → Bool} : A8 n f = true ↔ ∀ j, j < n → f j = true := by
 simp only [A8, aL, gS]
theorem lG {l : List LTerm} {f : LTerm → Bool} (h : ∀ j, j < l.length → f (l.getD j default) = true) : l.all f = true := by
 rw [aL]; intro x hx; obtain ⟨j, hj, rfl⟩ := bL.1 hx; have := h j hj; simpa [List.getD, hj] using this
theorem uB {l : List LTerm} {f : LTerm → Bool} (j : Nat) (hj : j < l.length) (h : f (l.getD j default) = false) : l.all f = false := by
 rw [fF]; intro e; rw [aL.1 e _ (bB hj)] at h; cases h
def yA (s : cC) (t : LTerm) : Bool := match zZ s t.text with
 | none => false
 | some o => decide (o.args.length = t.kids.length) && A8 t.kids.length (fun i => iN s (jS s (t.kids.getD i default)) (o.args.getD i []))
def C4 (s : cC) (t : LTerm) : Bool := match zZ s t.text with
 | none => false
 | some o => decide (o.args.length = t.kids.length) && A8 t.kids.length (fun i => (ofR s (t.kids.getD i default)).2 && pC s (ofR s (t.kids.getD i default)).1 (o.args.getD i []))
def uM (f : LTerm → LTerm → Int) (t : LTerm) (i : Nat) : Bool := wH (t.kids.getD (2 * i) default) && (decide (i = 0) || decide (f (t.kids.getD (2 * i - 2) default) (t.kids.getD (2 * i) default) < 0))
def pF (f : LTerm → LTerm → Int) (t : LTerm) : Bool := A8 ((t.kids.length + 1) / 2) (uM f t)
section
variable {f : LTerm → LTerm → Int} {t : LTerm} {i : Nat}
theorem Q5 (h : wH (t.kids.getD (2 * i) default) = false) : uM f t i = false := by rw [uM, h, Bool.false_and]
theorem aCk (h : 0 < ((2 * i : Nat) : Int)) (h2 : 0 ≤ f (t.kids.getD (2 * i - 2) default) (t.kids.getD (2 * i) default)) : uM f t i = false := by
 rw [uM, zf (by omega : ¬ i = 0), zf (by omega : ¬ f (t.kids.getD (2 * i - 2) default) (t.kids.getD (2 * i) default) < 0), cI, Bool.and_false]
theorem Q4 (h : wH (t.kids.getD (2 * i) default) = true) (h2 : ¬ 0 ≤ f (t.kids.getD (2 * i - 2) default) (t.kids.getD (2 * i) default)) : uM f t i = true := by
 rw [uM, h, zt (by omega : f (t.kids.getD (2 * i - 2) default) (t.kids.getD (2 * i) default) < 0), cR]; rfl
theorem aKl (h : wH (t.kids.getD (2 * i) default) = true) (h2 : ¬ 0 < ((2 * i : Nat) : Int)) : uM f t i = true := by
 rw [uM, h, zt (by omega : i = 0)]; rfl
end
mutual
def jF (s : cC) : LTerm → Bool
 | .mk k n x so ks rs => !decide (k = 6) && decide (rs = []) && plainPL s ks && (if k = 5 then yA s (.mk k n x so ks rs) else if k = 8 then pF zR (.mk k n x so ks rs) else true)
def plainPL (s : cC) : List LTerm → Bool
 | [] => true
 | k :: l => jF s k && plainPL s l
end
mutual
def nR (s : cC) : LTerm → Bool
 | .mk k n x so ks rs => plainRL s ks && (if k = 6 then false else if k = 5 then C4 s (.mk k n x so ks rs) else if k = 8 then pF zY (.mk k n x so ks rs) else true) && decide (rs = [])
def plainRL (s : cC) : List LTerm → Bool
 | [] => true
 | k :: l => nR s k && plainRL s l
end
theorem C2 {s : cC} : ∀ l, plainPL s l = l.all (jF s)
 | [] => rfl
 | k :: l => by rw [plainPL, C2 l]; rfl
theorem C1 {s : cC} : ∀ l, plainRL s l = l.all (nR s)
 | [] => rfl
 | k :: l => by rw [plainRL, C1 l]; rfl
theorem sW (s : cC) (t : LTerm) : jF s t = (!decide (t.kind = 6) && decide (t.rest = []) && t.kids.all (jF s) && (if t.kind = 5 then yA s t else if t.kind = 8 then pF zR t else true)) := by
 cases t; rw [jF, C2]; rfl
theorem O8 (s : cC) (t : LTerm) : nR s t = (t.kids.all (nR s) && (if t.kind = 6 then false else if t.kind = 5 then C4 s t else if t.kind = 8 then pF zY t else true) && decide (t.rest = [])) := by
 cases t; rw [nR, C1]; rfl
theorem aSr (s : cC) (t : LTerm) (hs : Small s) (ht : OkT t) (ih : ∀ k ∈ t.kids, CT 100 [cN s, elT k] (.b (jF s k))): CT 100 [cN s, elT t] (.b (jF s t)) := by
 refine aF mixed Tryz.func100 g0 ?_
 · skip
   have e := sW s t
   have hk1 := ht.kids
   by_cases h6 : t.kind = 6
   · rw [zt h6, Bool.not_true, Bool.false_and, Bool.false_and, Bool.false_and] at e
     (refine zs0 ?_; repeat' first | exact trivial | refine zJ ?_ ?_ | refine zH fun hc => ?_)
     all_goals first
       | exact aE (by rw [e]) rfl
       | (exfalso; omega)
   by_cases hr : ¬ t.rest = []
   · rw [zf hr, Bool.and_false, Bool.false_and, Bool.false_and] at e
     have hr2 : ¬ t.rest.length = 0 := fun h => hr (List.length_eq_zero_iff.1 h)
     (refine zs0 ?_; repeat' first | exact trivial | refine zJ ?_ ?_ | refine zH fun hc => ?_)
     all_goals first
       | exact aE (by rw [e]) rfl
       | (exfalso; omega)
   have hr : t.rest = [] := Classical.not_not.1 hr
   have hr2 : t.rest.length = 0 := by rw [hr]; rfl
   rw [zf h6, zt hr, Bool.not_false, Bool.true_and, Bool.true_and] at e
   (refine zs0 ?_; repeat' first | exact trivial | refine zJ ?_ ?_ | refine zH fun hc => ?_)
   · exfalso; omega
   refine eJ (fun (k : Nat) => [.k, .k, .k, .k, .j, .k, .j, .k, .k, .k, .k, .k, .k, .k, .k, .k, .k, .k, .k, .k, .k, .k, .k, .k, .v (.i .i64 (k : Nat)), .j, .j, .j, .j, .j, .j, .j, .j, .k, .k, .k, .k, .k, .k, .k, .k, .k, .k, .k, .k, .k, .k, .k, .k, .k, .k, .k, .k, .k, .k, .k, .k, .k, .k, .k, .k, .k, .k, .k, .k, .k, .k, .k, .k, .k, .k, .k, .k, .k, .k, .k, .k, .k, .k, .k, .k, .k, .k, .k, .k, .k, .k, .k, .k, .k, .k, .k, .k, .k, .k, .k, .k, .k, .k, .k, .k, .k, .k, .k, .k, .k, .k, .k, .k, .k]) (fun k => [.box false [.i .i64 (t).kind, .i .i64 (t).n, .s (t).text, .s (t).sort, .sl ((t).kids.flatMap aC) (t).kids.length, .sl ((t).rest.flatMap aC) (t).rest.length]]) (fun k => k ≤ t.kids.length ∧ ∀ j, j < k → jF s (t.kids.getD j default) = true) (fun k => t.kids.length - k) (0) _ ⟨aG _, fun j h => by omega⟩ rfl (by simp [eN]) ?_
   rintro k g j ⟨hk, ha⟩
   have o : k < t.kids.length → CT 100 [cN s, elT (t.kids.getD k default)] (.b (jF s (t.kids.getD k default))) := fun h => ih _ (bB h)
   refine zg ?_
   (refine zt1 o ?_; repeat' first | exact trivial | refine zJ ?_ ?_ | refine zH fun hc => ?_)
   · exact aE (by rw [e, uB k (by omega) hc, Bool.false_and]) rfl
   · exact ⟨k + 1, _, ⟨by omega, aY ha hc⟩, by omega, rfl, by simp⟩
   · rw [lG (fun j hj => ha j (by omega)), Bool.true_and, if_pos hc] at e
     have c1 := bFl s t.text
     cases h1 : zZ s t.text with
     | none =>
       rw [h1] at c1
       simp only [yA, h1] at e
       (repeat' (first | refine gT ?_ ?_ | refine gF ?_ ?_ | refine gC ?_ ?_ | ((refine aW (c1) ?_ ?_; (focus (simp -implicitDefEqProofs (disch := omega) only [pJ, cN, zdB, go_sem, simprocAttr]; done))); simp -implicitDefEqProofs (disch := omega) only [pJ, cN, go_sem, simprocAttr]) | refine aV (by omega) ?_ | (intro hr; have hc := hr; (try simp only [zdz] at hc); simp -implicitDefEqProofs (disch := omega) only [hr, pJ, cN, go_sem, simprocAttr]; (try clear hr))))
       all_goals exact aE (by rw [e]) rfl
     | some q =>
       rw [h1] at c1
       simp only [yA, h1] at e
       (repeat' (first | refine gT ?_ ?_ | refine gF ?_ ?_ | refine gC ?_ ?_ | ((refine aW (c1) ?_ ?_; (focus (simp -implicitDefEqProofs (disch := omega) only [pJ, cN, zdB, go_sem, simprocAttr]; done))); simp -implicitDefEqProofs (disch := omega) only [pJ, cN, go_sem, simprocAttr]) | refine aV (by omega) ?_ | (intro hr; have hc := hr; (try simp only [zdz] at hc); simp -implicitDefEqProofs (disch := omega) only [hr, pJ, cN, go_sem, simprocAttr]; (try clear hr))))
       · have hn : ¬ q.args.length = t.kids.length := by omega
         rw [zf hn, Bool.false_and] at e
         exact aE (by rw [e]) rfl
       have hn : q.args.length = t.kids.length := by omega
       rw [zt hn, Bool.true_and] at e
       refine eJ (fun (k : Nat) => [.k, .k, .k, .k, .j, .k, .k, .k, .k, .j, .j, .k, .k, .k, .k, .k, .k, .k, .k, .k, .k, .k, .k, .k, .k, .k, .k, .k, .k, .k, .k, .k, .k, .k, .k, .k, .k, .k, .k, .k, .k, .k, .k, .k, .k, .k, .k, .k, .k, .k, .k, .k, .k, .k, .k, .k, .k, .k, .v (.i .i64 (k : Nat)), .j, .j, .j, .j, .j, .j, .j, .j, .j, .j, .j, .j, .j, .j, .j, .j, .k, .k, .k, .k, .k, .k, .k, .k, .k, .k, .k, .k, .k, .k, .k, .k, .k, .k, .k, .k, .k, .k, .k, .k, .k, .k, .k, .k, .k, .k, .k, .k, .k, .k, .k]) (fun k => (.box false [.i .i64 (t).kind, .i .i64 (t).n, .s (t).text, .s (t).sort, .sl ((t).kids.flatMap aC) (t).kids.length, .sl ((t).rest.flatMap aC) (t).rest.length] :: (g ++ [.box false (bI q)]))) (fun k => k ≤ t.kids.length ∧ ∀ j, j < k → iN s (jS s (t.kids.getD j default)) (q.args.getD j []) = true) (fun k => t.kids.length - k) (0) [] ⟨aG _, fun j h => by omega⟩ (by simp [avs, avb, avi, avo, bI, aN]) (by simp [eN]) ?_
       rintro kk g2 j2 ⟨hkk, ha2⟩
       refine zg ?_
       (refine zt2 (aLz s (t.kids.getD kk default)) (aRv s (jS s (t.kids.getD kk default)) (q.args.getD kk []) hs) ?_; repeat' first | exact trivial | refine zJ ?_ ?_ | refine zH fun hc => ?_)
       · exact aE (by rw [e, fX kk (by omega) hc]) rfl
       · exact ⟨kk + 1, _, ⟨by omega, aY ha2 hc⟩, by omega, rfl, by simp⟩
       · exact aE (by rw [e, jM (fun j hj => ha2 j (by omega))]) rfl
   · rw [lG (fun j hj => ha j (by omega)), Bool.true_and, if_neg (by assumption), if_pos hc] at e
     refine bP (fun (i : Nat) => [.k, .k, .k, .k, .j, .k, .k, .k, .k, .k, .k, .v (.i .i64 ((2 * i : Nat) : Int)), .k, .k, .k, .k, .k, .k, .k, .k, .k, .k, .k, .k, .k, .k, .k, .k, .k, .k, .k, .k, .k, .k, .k, .k, .k, .k, .k, .k, .k, .k, .k, .k, .k, .k, .k, .k, .k, .k, .k, .k, .k, .k, .k, .k, .k, .k, .k, .k, .k, .k, .k, .k, .k, .k, .k, .k, .k, .k, .k, .k, .k, .k, .k, .k, .k, .j, .j, .j, .j, .j, .j, .j, .j, .j, .j, .j, .j, .j, .j, .j, .j, .j, .j, .j, .j, .j, .j, .j, .j, .j, .j, .j, .j, .j, .j, .j, .j, .j]) (fun i => (.box false [.i .i64 (t).kind, .i .i64 (t).n, .s (t).text, .s (t).sort, .sl ((t).kids.flatMap aC) (t).kids.length, .sl ((t).rest.flatMap aC) (t).rest.length] :: g)) (fun i => 2 * i ≤ t.kids.length + 1 ∧ ∀ j, j < i → uM zR t j = true) (fun i => t.kids.length + 1 - 2 * i) (0) ⟨aG _, fun j h => by omega⟩ rfl (by simp [eN]) ?_
     rintro i j2 ⟨hi, ha2⟩
     have h0 : (((2 * i : Nat) : Int) - 2).toNat = 2 * i - 2 := by omega
     have o1 : 2 * i < t.kids.length → OkT (t.kids.getD (2 * i) default) := fun h => ht.kid _ (bB h)
     have o2 : 2 * i < t.kids.length → OkT (t.kids.getD (2 * i - 2) default) := fun h => ht.kid _ (bB (by omega))
     refine zh h0 ?_
     (repeat' (first | refine gT ?_ ?_ | refine gF ?_ ?_ | refine gC ?_ ?_ | ((first | refine cF (aLy (t.kids.getD (2 * i) default)) ?_ | refine cF (bHl (t.kids.getD (2 * i - 2) default) (t.kids.getD (2 * i) default) (o2 (by omega)) (o1 (by omega))) ?_); simp -implicitDefEqProofs (disch := omega) only [h0, go_sem, simprocAttr]) | refine aV (by omega) ?_ | (intro hr; have hc := hr; (try simp only [zdz] at hc); simp -implicitDefEqProofs (disch := omega) only [hr, h0, go_sem, simprocAttr]; (try clear hr))))
     · exact aE (by rw [e, pF, fX i (by omega) (aCk (by assumption) hc)]) rfl
     · exact ⟨i + 1, ⟨by omega, aY ha2 (Q4 (by assumption) hc)⟩, by omega, by rw [show ((2 * (i + 1) : Nat) : Int) = ((2 * i : Nat) : Int) + 2 by omega]⟩
     · exact ⟨i + 1, ⟨by omega, aY ha2 (aKl (by assumption) hc)⟩, by omega, by rw [show ((2 * (i + 1) : Nat) : Int) = ((2 * i : Nat) : Int) + 2 by omega]⟩
     · exact aE (by rw [e, pF, fX i (by omega) (Q5 hc)]) rfl
     · exact aE (by rw [e, pF, jM (fun j hj => ha2 j (by omega))]) rfl
   · rw [lG (fun j hj => ha j (by omega)), Bool.true_and, if_neg (by assumption), if_neg (by assumption)] at e
     exact aE (by rw [e]) rfl
   · exfalso; omega
theorem bHp (s : cC) (hs : Small s) : ∀ (t : LTerm), OkT t → CT 100 [cN s, elT t] (.b (jF s t)) :=
 dD fun t hk _ ht => aSr s t hs ht (fun k hm => hk k hm (ht.kid k hm))
theorem aSq (s : cC) (t : LTerm) (hm : Small s) (hs : OkS s) (ht : OkT t) (ih : ∀ k ∈ t.kids, CT 173 [.agg (aN s), elT k] (.b (nR s k))): CT 173 [.agg (aN s), elT t] (.b (nR s t)) := by
 refine aF mixed Tryz.func173 g0 ?_
 · skip
   have e := O8 s t
   have er : decide ((t.rest.length : Int) = 0) = decide (t.rest = []) := by rw [cA]; simp
   have hk1 := ht.kids
   refine eJ (fun (k : Nat) => [.k, .k, .k, .k, .j, .k, .j, .k, .k, .k, .k, .k, .k, .k, .k, .k, .k, .v (.i .i64 (k : Nat)), .j, .j, .j, .j, .j, .j, .j, .j, .k, .k, .k, .k, .k, .k, .k, .k, .k, .k, .k, .k, .k, .k, .k, .k, .k, .k, .k, .k, .k, .k, .k, .k, .k, .k, .k, .k, .k, .k, .k, .k, .k, .k, .k, .k, .k, .k, .k, .k, .k, .k, .k, .k, .k, .k, .k, .k, .k, .k, .k, .k, .k, .k, .k, .k, .k, .k, .k, .k, .k, .k, .k, .k, .k, .k, .k, .k, .k, .k, .k, .k, .k, .k, .k, .k, .k, .k, .k, .k, .k, .k, .k, .k, .k, .k, .k, .k, .k, .k, .k, .k]) (fun k => [.box false (aN s), .box false [.i .i64 (t).kind, .i .i64 (t).n, .s (t).text, .s (t).sort, .sl ((t).kids.flatMap aC) (t).kids.length, .sl ((t).rest.flatMap aC) (t).rest.length]]) (fun k => k ≤ t.kids.length ∧ ∀ j, j < k → nR s (t.kids.getD j default) = true) (fun k => t.kids.length - k) (0) _ ⟨aG _, fun j h => by omega⟩ rfl (by simp [eN]) ?_
   rintro k g j ⟨hk, ha⟩
   have o : k < t.kids.length → CT 173 [.agg (aN s), elT (t.kids.getD k default)] (.b (nR s (t.kids.getD k default))) := fun h => ih _ (bB h)
   refine zg ?_
   (refine zt1 o ?_; repeat' first | exact trivial | refine zJ ?_ ?_ | refine zH fun hc => ?_)
   · exact aE (by rw [e, uB k (by omega) hc, Bool.false_and, Bool.false_and]) rfl
   · exact ⟨k + 1, _, ⟨by omega, aY ha hc⟩, by omega, rfl, by simp⟩
   · rw [if_pos hc, Bool.and_false, Bool.false_and] at e
     exact aE (by rw [e]) rfl
   · rw [lG (fun j hj => ha j (by omega)), Bool.true_and, if_neg (by assumption), if_pos hc] at e
     have c1 : Ctr _ _ _ _ (fS (zZ s t.text)) := aDl s.ops t.text hs.ops
     cases h1 : zZ s t.text with
     | none =>
       rw [h1] at c1
       simp only [C4, h1] at e
       (repeat' (first | refine gT ?_ ?_ | refine gF ?_ ?_ | refine gC ?_ ?_ | ((refine aW (c1) ?_ ?_; (focus (simp -implicitDefEqProofs (disch := omega) only [fS, zdB, go_sem, simprocAttr]; done))); simp -implicitDefEqProofs (disch := omega) only [fS, go_sem, simprocAttr]) | refine aV (by omega) ?_ | (intro hr; have hc := hr; (try simp only [zdz] at hc); simp -implicitDefEqProofs (disch := omega) only [hr, fS, go_sem, simprocAttr]; (try clear hr))))
       all_goals exact aE (by rw [e]; rfl) rfl
     | some q =>
       rw [h1] at c1
       simp only [C4, h1] at e
       (repeat' (first | refine gT ?_ ?_ | refine gF ?_ ?_ | refine gC ?_ ?_ | ((refine aW (c1) ?_ ?_; (focus (simp -implicitDefEqProofs (disch := omega) only [fS, zdB, go_sem, simprocAttr]; done))); simp -implicitDefEqProofs (disch := omega) only [fS, go_sem, simprocAttr]) | refine aV (by omega) ?_ | (intro hr; have hc := hr; (try simp only [zdz] at hc); simp -implicitDefEqProofs (disch := omega) only [hr, fS, go_sem, simprocAttr]; (try clear hr))))
       · have hn : ¬ q.args.length = t.kids.length := by omega
         rw [zf hn, Bool.false_and, Bool.false_and] at e
         exact aE (by rw [e]) rfl
       have hn : q.args.length = t.kids.length := by omega
       rw [zt hn, Bool.true_and] at e
       refine eJ (fun (k : Nat) => [.k, .k, .k, .k, .j, .k, .k, .k, .k, .j, .j, .j, .j, .k, .k, .k, .k, .k, .k, .k, .k, .k, .k, .k, .k, .k, .k, .k, .k, .k, .k, .k, .k, .k, .k, .k, .k, .k, .k, .k, .k, .k, .k, .k, .k, .k, .k, .k, .k, .k, .k, .k, .k, .k, .v (.i .i64 (k : Nat)), .j, .j, .j, .j, .j, .j, .j, .j, .j, .j, .j, .j, .j, .j, .j, .j, .j, .j, .j, .j, .j, .j, .j, .j, .k, .k, .k, .k, .k, .k, .k, .k, .k, .k, .k, .k, .k, .k, .k, .k, .k, .k, .k, .k, .k, .k, .k, .k, .k, .k, .k, .k, .k, .k, .k, .k, .k, .k, .k, .k, .k, .k, .k]) (fun k => (.box false (aN s) :: .box false [.i .i64 (t).kind, .i .i64 (t).n, .s (t).text, .s (t).sort, .sl ((t).kids.flatMap aC) (t).kids.length, .sl ((t).rest.flatMap aC) (t).rest.length] :: (g ++ [.box false (bI q)]))) (fun k => k ≤ t.kids.length ∧ ∀ j, j < k → ((ofR s (t.kids.getD j default)).2 && pC s (ofR s (t.kids.getD j default)).1 (q.args.getD j [])) = true) (fun k => t.kids.length - k) (0) [] ⟨aG _, fun j h => by omega⟩ (by simp [avs, avb, avi, avo, bI, aN]) (by simp [eN]) ?_
       rintro kk g2 j2 ⟨hkk, ha2⟩
       refine zg ?_
       (refine zt2 (aDi s (t.kids.getD kk default) hs) (aRu s (ofR s (t.kids.getD kk default)).1 (q.args.getD kk []) hm) ?_; repeat' first | exact trivial | refine zJ ?_ ?_ | refine zH fun hc => ?_)
       · exact aE (by rw [e, fX kk (by omega) (by rw [hc, Bool.and_false]), Bool.false_and]) rfl
       · exact ⟨kk + 1, _, ⟨by omega, aY ha2 (by rw [hc, Bool.and_true]; assumption)⟩, by omega, rfl, by simp⟩
       · exact aE (by rw [e, fX kk (by omega) (by rw [hc, Bool.false_and]), Bool.false_and]) rfl
       · exact aE (by rw [e, jM (fun j hj => ha2 j (by omega)), er, Bool.true_and]) rfl
   · rw [lG (fun j hj => ha j (by omega)), Bool.true_and, if_neg (by assumption), if_neg (by assumption), if_pos hc] at e
     refine bP (fun (i : Nat) => [.k, .k, .k, .k, .j, .k, .k, .k, .k, .k, .k, .k, .k, .v (.i .i64 ((2 * i : Nat) : Int)), .k, .k, .k, .k, .k, .k, .k, .k, .k, .k, .k, .k, .k, .k, .k, .k, .k, .k, .k, .k, .k, .k, .k, .k, .k, .k, .k, .k, .k, .k, .k, .k, .k, .k, .k, .k, .k, .k, .k, .k, .k, .k, .k, .k, .k, .k, .k, .k, .k, .k, .k, .k, .k, .k, .k, .k, .k, .k, .k, .k, .k, .k, .k, .k, .k, .k, .k, .j, .j, .j, .j, .j, .j, .j, .j, .j, .j, .j, .j, .j, .j, .j, .j, .j, .j, .j, .j, .j, .j, .j, .j, .j, .j, .j, .j, .j, .j, .j, .j, .j, .k, .k, .k, .k]) (fun i => (.box false (aN s) :: .box false [.i .i64 (t).kind, .i .i64 (t).n, .s (t).text, .s (t).sort, .sl ((t).kids.flatMap aC) (t).kids.length, .sl ((t).rest.flatMap aC) (t).rest.length] :: g)) (fun i => 2 * i ≤ t.kids.length + 1 ∧ ∀ j, j < i → uM zY t j = true) (fun i => t.kids.length + 1 - 2 * i) (0) ⟨aG _, fun j h => by omega⟩ rfl (by simp [eN]) ?_
     rintro i j2 ⟨hi, ha2⟩
     have h0 : (((2 * i : Nat) : Int) - 2).toNat = 2 * i - 2 := by omega
     have o1 : 2 * i < t.kids.length → OkT (t.kids.getD (2 * i) default) := fun h => ht.kid _ (bB h)
     have o2 : 2 * i < t.kids.length → OkT (t.kids.getD (2 * i - 2) default) := fun h => ht.kid _ (bB (by omega))
     refine zh h0 ?_
     (repeat' (first | refine gT ?_ ?_ | refine gF ?_ ?_ | refine gC ?_ ?_ | ((first | refine cF (aWh (t.kids.getD (2 * i) default)) ?_ | refine cF (bHi (t.kids.getD (2 * i - 2) default) (t.kids.getD (2 * i) default) (o2 (by omega)) (o1 (by omega))) ?_); simp -implicitDefEqProofs (disch := omega) only [h0, go_sem, simprocAttr]) | refine aV (by omega) ?_ | (intro hr; have hc := hr; (try simp only [zdz] at hc); simp -implicitDefEqProofs (disch := omega) only [hr, h0, go_sem, simprocAttr]; (try clear hr))))
     · exact aE (by rw [e, pF, fX i (by omega) (aCk (by assumption) hc), Bool.false_and]) rfl
     · exact ⟨i + 1, ⟨by omega, aY ha2 (Q4 (by assumption) hc)⟩, by omega, by rw [show ((2 * (i + 1) : Nat) : Int) = ((2 * i : Nat) : Int) + 2 by omega]⟩
     · exact ⟨i + 1, ⟨by omega, aY ha2 (aKl (by assumption) hc)⟩, by omega, by rw [show ((2 * (i + 1) : Nat) : Int) = ((2 * i : Nat) : Int) + 2 by omega]⟩
     · exact aE (by rw [e, pF, fX i (by omega) (Q5 hc), Bool.false_and]) rfl
     · exact aE (by rw [e, pF, jM (fun j hj => ha2 j (by omega)), er, Bool.true_and]) rfl
   · rw [lG (fun j hj => ha j (by omega)), Bool.true_and, if_neg (by assumption), if_neg (by assumption), if_neg (by assumption), Bool.true_and] at e
     exact aE (by rw [e, er]) rfl
theorem bHo (s : cC) (hm : Small s) (hs : OkS s) : ∀ (t : LTerm), OkT t → CT 173 [.agg (aN s), elT t] (.b (nR s t)) :=
 dD fun t hk _ ht => aSq s t hm hs ht (fun k hm => hk k hm (ht.kid k hm))

theorem aMi {a b : Int} : oT a b = 0 ↔ a = b := by
 rw [oT]; split
 · omega
 · split <;> omega
structure ZN (t : LTerm) : Prop where
 a : t.kind = 1 ∨ t.kind = 2 → t.text = [] ∧ t.sort = [] ∧ t.kids = [] ∧ t.rest = []
 b : t.kind = 3 ∨ t.kind = 4 → t.n = 0 ∧ t.sort = [] ∧ t.kids = [] ∧ t.rest = []
 c : t.kind = 5 → t.n = 0 ∧ t.sort = [] ∧ t.rest = []
 d : t.kind = 6 → t.n = 0 ∧ t.kids = [] ∧ t.rest = []
 e : t.kind = 7 ∨ t.kind = 8 → t.n = 0 ∧ t.text = [] ∧ t.sort = []
 f : 1 ≤ t.kind ∧ t.kind ≤ 8
theorem oF {t : LTerm} {a b c d e : Bool} (h : eI t a b c d e = true) : (a = false → t.n = 0) ∧ (b = false → t.text = []) ∧ (c = false → t.sort = []) ∧ (d = false → t.kids = []) ∧ (e = false → t.rest = []) := by
 simp only [eI, aB, bK, decide_eq_true_eq] at h
 obtain ⟨⟨⟨⟨h1, h2⟩, h3⟩, h4⟩, h5⟩ := h
 exact ⟨fun h => h1.resolve_left (by simp [h]), fun h => h2.resolve_left (by simp [h]), fun h => h3.resolve_left (by simp [h]), fun h => h4.resolve_left (by simp [h]), fun h => h5.resolve_left (by simp [h])⟩
theorem aJx {t : LTerm} (h : cB t = true) : ZN t := by
 have two : ∀ {x y : Bool}, (x && y) = true → x = true ∧ y = true := by simp
 unfold cB at h
 split at h
 · have z := oF (two h).2
   exact ⟨fun _ => ⟨z.2.1 rfl, z.2.2.1 rfl, z.2.2.2.1 rfl, z.2.2.2.2 rfl⟩, fun _ => by omega, fun _ => by omega, fun _ => by omega, fun _ => by omega, by omega⟩
 split at h
 · have z := oF (two h).2
   exact ⟨fun _ => ⟨z.2.1 rfl, z.2.2.1 rfl, z.2.2.2.1 rfl, z.2.2.2.2 rfl⟩, fun _ => by omega, fun _ => by omega, fun _ => by omega, fun _ => by omega, by omega⟩
 split at h
 · have z := oF (two h).2
   exact ⟨fun _ => by omega, fun _ => ⟨z.1 rfl, z.2.2.1 rfl, z.2.2.2.1 rfl, z.2.2.2.2 rfl⟩, fun _ => by omega, fun _ => by omega, fun _ => by omega, by omega⟩
 split at h
 · have z := oF (two h).2
   exact ⟨fun _ => by omega, fun _ => ⟨z.1 rfl, z.2.2.1 rfl, z.2.2.2.1 rfl, z.2.2.2.2 rfl⟩, fun _ => by omega, fun _ => by omega, fun _ => by omega, by omega⟩
 split at h
 · have z := oF (two h).2
   exact ⟨fun _ => by omega, fun _ => by omega, fun _ => ⟨z.1 rfl, z.2.2.1 rfl, z.2.2.2.2 rfl⟩, fun _ => by omega, fun _ => by omega, by omega⟩
 split at h
 · have z : eI t false true true false false = true := by
     split at h
     · exact (two h).2
     · exact (two h).2
   have z := oF z
   exact ⟨fun _ => by omega, fun _ => by omega, fun _ => by omega, fun _ => ⟨z.1 rfl, z.2.2.2.1 rfl, z.2.2.2.2 rfl⟩, fun _ => by omega, by omega⟩
 split at h
 · have z := oF (two h).2
   exact ⟨fun _ => by omega, fun _ => by omega, fun _ => by omega, fun _ => by omega, fun _ => ⟨z.1 rfl, z.2.1 rfl, z.2.2.1 rfl⟩, by omega⟩
 split at h
 · have z := oF (two h).2
   exact ⟨fun _ => by omega, fun _ => by omega, fun _ => by omega, fun _ => by omega, fun _ => ⟨z.1 rfl, z.2.1 rfl, z.2.2.1 rfl⟩, by omega⟩
 · cases h
theorem aIo {t : LTerm} {so : Str} (h : oM t so = true) : ∀ r ∈ t.rest, ZN r ∧ r.kids = [] ∧ r.rest = [] := by
 intro r hr
 simp only [oM, bK, aB, decide_eq_true_eq] at h
 rcases h with h | ⟨⟨⟨⟨h1, h2⟩, h3⟩, h4⟩, h5⟩
 · rw [List.length_eq_zero_iff] at h; rw [h] at hr; cases hr
 · obtain ⟨x, hx⟩ := V5.1 h1
   rw [hx] at hr h2 h5
   simp only [bC] at hr
   subst hr
   simp only [hC] at h2 h5
   have z := oF h5
   exact ⟨⟨fun _ => by omega, fun _ => by omega, fun _ => by omega, fun _ => ⟨z.1 rfl, z.2.2.2.1 rfl, z.2.2.2.2 rfl⟩, fun _ => by omega, by omega⟩, z.2.2.2.1 rfl, z.2.2.2.2 rfl⟩
theorem yD {t : LTerm} (h : cB t = true) : ∀ r ∈ t.rest, ZN r ∧ r.kids = [] ∧ r.rest = [] := by
 have two : ∀ {x y : Bool}, (x && y) = true → x = true ∧ y = true := by simp
 have z := aJx h
 intro r hr
 have hne : t.rest ≠ [] := fun e => by rw [e] at hr; cases hr
 have h7 : t.kind = 7 ∨ t.kind = 8 := by
   rcases z.f with ⟨f1, f2⟩
   by_cases h1 : t.kind = 1 ∨ t.kind = 2
   · exact absurd (z.a h1).2.2.2 hne
   by_cases h3 : t.kind = 3 ∨ t.kind = 4
   · exact absurd (z.b h3).2.2.2 hne
   by_cases h5 : t.kind = 5
   · exact absurd (z.c h5).2.2 hne
   by_cases h6 : t.kind = 6
   · exact absurd (z.d h6).2.2 hne
   omega
 unfold cB at h
 rw [if_neg (by omega), if_neg (by omega), if_neg (by omega), if_neg (by omega), if_neg (by omega), if_neg (by omega)] at h
 split at h
 · exact aIo (two h).1 r hr
 · split at h
   · exact aIo (two (two h).1).1 r hr
   · cases h
inductive ZT : LTerm → Prop
 | mk {t : LTerm} : ZN t → (∀ k ∈ t.kids, ZT k) → (∀ k ∈ t.rest, ZT k) → ZT t
theorem pB {p : LTerm → Bool} {t : LTerm} : wfT p t = true ↔ p t = true ∧ ∀ k ∈ t.kids, wfT p k = true := by
 have hl : ∀ l : List LTerm, wfL p l = true ↔ ∀ k ∈ l, wfT p k = true := by
   intro l
   induction l with
   | nil => simp [wfL]
   | cons a l ih => simp [wfL, ih]
 cases t
 rw [wfT, aB, hl]; rfl
theorem aXb : ∀ t : LTerm, wfT cB t = true → ZT t :=
 dD fun t hk _ h => by
   rw [pB] at h
   refine .mk (aJx h.1) (fun k hm => hk k hm (h.2 k hm)) (fun r hr => ?_)
   have z := yD h.1 r hr
   exact .mk z.1 (fun k hm => by rw [z.2.1] at hm; cases hm) (fun k hm => by rw [z.2.2] at hm; cases hm)
theorem tQ (a : Int) : oT a a = 0 := I6 rfl
theorem tP (a : Str) : pL a a = 0 := aAf rfl
theorem sY : ordPL [] [] = 0 := by rw [ordPL]
theorem Y1 : ∀ (l m : List LTerm), (∀ a ∈ l, ∀ b ∈ m, zY a b = zR a b) → ordRL l m = ordPL l m
 | [], [], _ => by rw [ordRL, ordPL]
 | [], _ :: _, _ => by rw [ordRL, ordPL]
 | _ :: _, [], _ => by rw [ordRL, ordPL]
 | a :: l, b :: m, h => by
   rw [ordRL, ordPL, h a (by simp) b (by simp), Y1 l m (fun x hx y hy => h x (by simp [hx]) y (by simp [hy]))]
theorem bDy : ∀ (a : LTerm), ZT a → ∀ b, ZT b → zY a b = zR a b :=
 dD (Q := fun a => ZT a → ∀ b, ZT b → zY a b = zR a b) fun a hk hr ha b hb => by
   obtain ⟨za, ka, ra⟩ := ha
   obtain ⟨zb, kb, rb⟩ := hb
   have e1 : ordRL a.kids b.kids = ordPL a.kids b.kids := Y1 _ _ (fun x hx y hy => hk x hx (ka x hx) y (kb y hy))
   have e2 : ordRL a.rest b.rest = ordPL a.rest b.rest := Y1 _ _ (fun x hx y hy => hr x hx (ra x hx) y (rb y hy))
   rw [aJn, Y0, e1, e2]
   by_cases h0 : oT a.kind b.kind = 0
   · rw [if_pos h0, if_pos h0]
     have h0 := aMi.1 h0
     by_cases h1 : a.kind = 1 ∨ a.kind = 2
     · obtain ⟨x1, x2, x3, x4⟩ := za.a h1
       obtain ⟨y1, y2, y3, y4⟩ := zb.a (by omega)
       rw [if_pos h1, x1, x2, x3, x4, y1, y2, y3, y4, tP, sY]
       simp only [if_true]
       split
       · assumption
       · rfl
     rw [if_neg h1]
     by_cases h3 : a.kind = 3 ∨ a.kind = 4
     · obtain ⟨x1, x2, x3, x4⟩ := za.b h3
       obtain ⟨y1, y2, y3, y4⟩ := zb.b (by omega)
       rw [if_pos h3, x1, x2, x3, x4, y1, y2, y3, y4, tP, tQ, sY]
       simp only [if_true]
       split
       · assumption
       · rfl
     rw [if_neg h3]
     by_cases h6 : a.kind = 6
     · obtain ⟨x1, x3, x4⟩ := za.d h6
       obtain ⟨y1, y3, y4⟩ := zb.d (by omega)
       rw [if_pos h6, x1, x3, x4, y1, y3, y4, tQ, sY]
       simp only [if_true]
       split
       · split
         · assumption
         · rfl
       · rfl
     rw [if_neg h6]
     by_cases h5 : a.kind = 5
     · obtain ⟨x1, x3, x4⟩ := za.c h5
       obtain ⟨y1, y3, y4⟩ := zb.c (by omega)
       rw [if_pos h5, x1, x3, x4, y1, y3, y4, tQ, tP, sY]
       simp only [if_true]
       split
       · split
         · assumption
         · rfl
       · rfl
     rw [if_neg h5]
     have f := za.f
     obtain ⟨x1, x3, x4⟩ := za.e (by omega)
     obtain ⟨y1, y3, y4⟩ := zb.e (by omega)
     rw [x1, x3, x4, y1, y3, y4, tQ, tP]
     simp only [if_true]
   · rw [if_neg h0, if_neg h0]

def kK (s : cC) (t : LTerm) : Bool := eS cB t && jF s t
theorem aMb (s : cC) (t : LTerm) (hs : Small s) (ht : OkT t): CT 50 [cN s, elT t] (.b (kK s t)) := by
 refine aF mixed Tryz.func50 g0 ?_
 · skip
   (refine zt2 (aMa t ht) (bHp s hs t ht) ?_; repeat' first | exact trivial | refine zJ ?_ ?_ | refine zH fun hc => ?_)
   all_goals refine aE ?_ rfl
   all_goals simp only [kK, *, Bool.true_and, Bool.false_and]
theorem M6 {s : cC} (h : cU s = true) : ∀ o ∈ s.ops, aKn s o = true := by
 simp only [cU, lN, mK, nK, aB, aL, decide_eq_true_eq] at h
 exact h.2.1.2
theorem aJr {s : cC} {o : LOp} (h : aKn s o = true) : existsA s o.sort = true := by
 simp only [aKn, opHead, aB, eK] at h
 simp [existsA, keysOf, h.1.1.1.1.1.2]
theorem aBu {s : cC} {x : Str} {o : LOp} (h : zZ s x = some o) : o ∈ s.ops := zO h
theorem lD {s : cC} {x : Str} (h : x ∈ fJ) : existsA s x = true := by simp [existsA, keysOf, h]
theorem B7 {s : cC} {t : LTerm} (hv : cU s = true) (hz : 1 ≤ t.kind ∧ t.kind ≤ 8) (hp : jF s t = true) : ofR s t = (jS s t, true) ∧ existsA s (jS s t) = true := by
 rw [sW] at hp
 simp only [aB, bQ, decide_eq_false_iff_not] at hp
 obtain ⟨⟨⟨h6, _⟩, _⟩, ha⟩ := hp
 by_cases h5 : t.kind = 5
 · rw [if_pos h5, yA] at ha
   cases ho : zZ s t.text with
   | none => rw [ho] at ha; cases ha
   | some o =>
     have e1 : (called s t.text).1 = o := by rw [called, ho]
     have e2 : (argsR2 s t.text).2 = (o.sort, true) := by rw [argsR2, ho]
     simp only [jS, ofR, h5, Int.reduceEq, if_true, if_false, e1, e2, true_and]
     exact aJr (M6 hv o (aBu ho))
 · simp only [jS, ofR]
   split
   · exact ⟨rfl, lD (by decide)⟩
   split
   · exact ⟨rfl, lD (by decide)⟩
   split
   · exact ⟨rfl, lD (by decide)⟩
   split
   · exact ⟨rfl, lD (by decide)⟩
   split
   · exact ⟨rfl, lD (by decide)⟩
   split
   · exact ⟨rfl, lD (by decide)⟩
   · omega
theorem all_congr {l : List LTerm} {f g : LTerm → Bool} (h : ∀ x ∈ l, f x = g x) : l.all f = l.all g := by
 induction l with
 | nil => rfl
 | cons a l ih => rw [gR, gR, h a (by simp), ih (fun x hx => h x (by simp [hx]))]
theorem uY {n : Nat} {f g : Nat → Bool} (h : ∀ j, j < n → f j = g j) : A8 n f = A8 n g := by
 rw [cA, kI, kI]
 exact ⟨fun a j hj => h j hj ▸ a j hj, fun a j hj => (h j hj).symm ▸ a j hj⟩
theorem aKk {t : LTerm} (h : ∀ k ∈ t.kids, ZT k) : pF zY t = pF zR t := by
 refine uY fun j hj => ?_
 have e : zY (t.kids.getD (2 * j - 2) default) (t.kids.getD (2 * j) default) = zR (t.kids.getD (2 * j - 2) default) (t.kids.getD (2 * j) default) := bDy _ (h _ (bB (by omega))) _ (h _ (bB (by omega)))
 rw [uM, uM, e]
theorem aPy {s : cC} (hv : cU s = true) : ∀ t : LTerm, wfT cB t = true → nR s t = jF s t :=
 dD (Q := fun t => wfT cB t = true → nR s t = jF s t) fun t hk _ hw => by
   have hw' := pB.1 hw
   have z := aXb t hw
   have e : t.kids.all (nR s) = t.kids.all (jF s) := all_congr fun x hx => hk x hx (hw'.2 x hx)
   rw [O8, sW, e]
   rcases eQ (t.kids.all (jF s)) with ha | ha
   · rw [ha, Bool.true_and, Bool.and_true]
     by_cases h6 : t.kind = 6
     · rw [if_pos h6, zt h6]; rfl
     rw [if_neg h6, zf h6, Bool.not_false, Bool.true_and]
     by_cases h5 : t.kind = 5
     · rw [if_pos h5, if_pos h5]
       have e5 : C4 s t = yA s t := by
         rw [C4, yA]
         cases ho : zZ s t.text with
         | none => rfl
         | some o =>
           dsimp only
           congr 1
           refine uY fun j hj => ?_
           have hm : t.kids.getD j default ∈ t.kids := bB hj
           have zk := aXb _ (hw'.2 _ hm)
           obtain ⟨q1, q2⟩ := B7 hv (by cases zk with | mk a _ _ => exact a.f) (aL.1 ha _ hm)
           rw [q1, Bool.true_and]
           exact wL q2
       rw [e5, Bool.and_comm]
     rw [if_neg h5, if_neg h5]
     by_cases h8 : t.kind = 8
     · rw [if_pos h8, if_pos h8, aKk (by cases z with | mk _ b _ => exact b), Bool.and_comm]
     · rw [if_neg h8, if_neg h8, Bool.and_comm]
   · rw [ha]; simp
theorem E8 {t : LTerm} (h : eS cB t = true) : wfT cB t = true := by
 simp only [eS, aB] at h; exact h.1.1
theorem bHt (s : cC) (t : LTerm) (hm : Small s) (hs : OkS s) (hv : cU s = true) (ht : OkT t): CT 108 [.agg (aN s), elT t] (.b (kK s t)) := by
 refine aF mixed Tryz.func108 g0 ?_
 · skip
   (refine zt2 (aDf t ht) (bHo s hm hs t ht) ?_; repeat' first | exact trivial | refine zJ ?_ ?_ | refine zH fun hc => ?_)
   all_goals refine aE ?_ rfl
   · rw [kK, hc, aPy hv t (E8 hc), Bool.true_and]
   · rw [kK, hc, Bool.false_and]
theorem aWi (s : cC) (t : LTerm) (hm : Small s) (hs : OkS s) (ht : OkT t): CT 54 [.agg (aN s), elT t] (.b (cU s && kK s t)) := by
 refine aF mixed Tryz.func54 g0 ?_
 · skip
   (repeat' (first | refine gT ?_ ?_ | refine gF ?_ ?_ | refine gC ?_ ?_ | ((first | refine cF (aMc s hm hs) ?_ | refine cF (bHt s t hm hs hc ht) ?_); simp -implicitDefEqProofs (disch := omega) only [go_sem, simprocAttr]) | refine aV (by omega) ?_ | (intro hr; have hc := hr; (try simp only [zdz] at hc); simp -implicitDefEqProofs (disch := omega) only [hr, go_sem, simprocAttr]; (try clear hr))))
   all_goals exact aE rfl rfl

theorem aUo {H g : List AObj} {out : AV} {l : List LTerm} (h : eP 6 0 g out (l.flatMap aC) l.length) (hH : H = g) : Rd6 H out l := by
 subst hH
 rcases h with ⟨rfl, hn, h0⟩ | ⟨i, rfl, hi, hl⟩
 · exact .inl ⟨rfl, List.length_eq_zero_iff.1 (by omega)⟩
 · refine .inr (.inr ⟨i + 0, 0, _, _, _, rfl, (by simpa using hi), by omega, ?_⟩)
   rw [dG, aJ (by omega)]
theorem aVf {H : List AObj} {v : AV} {l : List LTerm} (r : Rd6 H v l) : Fin H v (.sl (l.flatMap aC) l.length) := by
 have e := xR r
 have e1 : mH H v (.sl (l.flatMap aC) l.length) := e.1
 have e2 : bS v (.sl (l.flatMap aC) l.length) = [] := e.2
 exact .inr ⟨e1, by rw [e2]; exact dC, by rw [e2]; simp⟩
theorem aEt {l : List LTerm} {k : Nat} (h : k < l.length) : (l.take (k + 1)).flatMap aC = (l.take k).flatMap aC ++ aC (l.getD k default) := by
 rw [eU (d := default) h, fU]; simp
theorem dS {α : Type} {l : List α} : (List.replicate 1 l).flatten = l := by simp
theorem aDg (l : List LTerm) (hl : l.length ≤ 1466015503701) (ih : ∀ t ∈ l, CT 44 [elT t] (elT t)): CT 78 [avt l] (avt l) := by
 refine bM mixed Tryz.func78 g0 ?_
 · simp -implicitDefEqProofs (disch := omega) only [Tryz.f78, go_sem, List.replicate, ↓reduceIte, reduceAdd, reduceSub, reduceMul, reduceLeDiff, reduceLT, reduceEqDiff, reduceNeg, Nat.reduceBEq, avt]
   refine bP (fun (s : Nat × AV × List AObj) => [.k, .k, .k, .v (s.2.1), .k, .j, .k, .k, .v (.i .i64 (s.1 : Nat)), .j, .j, .j, .j, .j, .j, .j, .j, .j, .k]) (fun s => s.2.2) (fun s => s.1 ≤ l.length ∧ eP 6 0 s.2.2 s.2.1 ((l.take s.1).flatMap aC) s.1) (fun s => l.length - s.1) ((0, .e0, [])) ⟨aG _, kY⟩ rfl (by simp [eN]) ?_
   rintro ⟨k, out, g⟩ j ⟨hk, ho⟩
   dsimp only at hk ho
   have o : k < l.length → CT 44 [elT (l.getD k default)] (elT (l.getD k default)) := fun h => ih _ (bB h)
   refine zg ?_
   (repeat' (first | refine gT ?_ ?_ | refine gF ?_ ?_ | refine gC ?_ ?_ | ((refine aW ((o (by omega))) ?_ ?_; (focus (simp -implicitDefEqProofs (disch := omega) only [dS, zdB, go_sem, ↓reduceIte, reduceAdd, reduceSub, reduceMul, reduceLeDiff, reduceLT, reduceEqDiff, reduceNeg, Nat.reduceBEq]; done))); simp -implicitDefEqProofs (disch := omega) only [dS, go_sem, ↓reduceIte, reduceAdd, reduceSub, reduceMul, reduceLeDiff, reduceLT, reduceEqDiff, reduceNeg, Nat.reduceBEq]) | refine aV (by omega) ?_ | (intro hr; have hc := hr; (try simp only [zdz] at hc); simp -implicitDefEqProofs (disch := omega) only [hr, dS, go_sem, ↓reduceIte, reduceAdd, reduceSub, reduceMul, reduceLeDiff, reduceLT, reduceEqDiff, reduceNeg, Nat.reduceBEq]; (try clear hr))))
   · refine eV (pre := []) (g := g ++ [.box false [.i .i64 (l.getD k default).kind, .i .i64 (l.getD k default).n, .s (l.getD k default).text, .s (l.getD k default).sort, .sl ((l.getD k default).kids.flatMap aC) (l.getD k default).kids.length, .sl ((l.getD k default).rest.flatMap aC) (l.getD k default).rest.length]]) (more := [.arr false 6 ([.i .i64 (l.getD k default).kind, .i .i64 (l.getD k default).n, .s (l.getD k default).text, .s (l.getD k default).sort, .sl ((l.getD k default).kids.flatMap aC) (l.getD k default).kids.length, .sl ((l.getD k default).rest.flatMap aC) (l.getD k default).rest.length])]) (news := [.i .i64 (l.getD k default).kind, .i .i64 (l.getD k default).n, .s (l.getD k default).text, .s (l.getD k default).sort, .sl ((l.getD k default).kids.flatMap aC) (l.getD k default).kids.length, .sl ((l.getD k default).rest.flatMap aC) (l.getD k default).rest.length]) (m := 1) ((ho).more _) rfl (by simp -implicitDefEqProofs (disch := omega) only [go_sem, ↓reduceIte, reduceAdd, reduceSub, reduceMul, reduceLeDiff, reduceLT, reduceEqDiff, reduceNeg, Nat.reduceBEq]) bPp bOf bOh bPt rfl (by decide) (by simp -implicitDefEqProofs (disch := omega) only [go_sem, ↓reduceIte, reduceAdd, reduceSub, reduceMul, reduceLeDiff, reduceLT, reduceEqDiff, reduceNeg, Nat.reduceBEq]) (by simp -implicitDefEqProofs (disch := omega) only [go_sem, ↓reduceIte, reduceAdd, reduceSub, reduceMul, reduceLeDiff, reduceLT, reduceEqDiff, reduceNeg, Nat.reduceBEq]) ⟨by omega, by omega⟩ ?_
     intro out' g' ho' _
     refine zg ?_
     refine ⟨(k + 1, out', g'), ⟨by dsimp only; omega, ?_⟩, by dsimp only; omega, rfl, by simp⟩
     dsimp only
     rw [aEt (by omega), bA]
     exact ho'
   · have h1 : k = l.length := by omega
     subst h1
     rw [iF] at ho
     exact aVf (aUo ho rfl)
theorem aSs (t : LTerm) (ihk : CT 78 [avt t.kids] (avt t.kids)) (ihr : CT 78 [avt t.rest] (avt t.rest)): CT 44 [elT t] (elT t) := by
 refine aF mixed Tryz.func44 g0 ?_
 · skip
   (refine zt2 ihk ihr ?_; repeat' first | exact trivial | refine zJ ?_ ?_ | refine zH fun hc => ?_)
   all_goals exact aE rfl (by simp only [pers, persL, lQ, dN])
theorem bHu : ∀ (t : LTerm), OkT t → CT 44 [elT t] (elT t) :=
 dD fun t hk hr ht => aSs t (aDg t.kids ht.kids fun x hx => hk x hx (ht.kid x hx)) (aDg t.rest ht.rest fun x hx => hr x hx (ht.rst x hx))
end Go.Proofs.YtifefbhllfdmlaaGreatDoor
