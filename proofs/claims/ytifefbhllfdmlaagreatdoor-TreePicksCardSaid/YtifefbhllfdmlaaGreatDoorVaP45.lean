/-
  What functions of the chapter return, as plain functions of what they are given; no condition beyond those that each theorem names.
-/
import Derived.Test.YtifefbhllfdmlaaGreatDoorVaP44
import Derived.Test.YtifefbhllfdmlaaGreatDoorVaP41
import Derived.Test.YtifefbhllfdmlaaGreatDoorSoP43
set_option maxRecDepth 100000
set_option linter.unusedSimpArgs false
set_option linter.unusedVariables false
set_option maxHeartbeats 4000000
namespace Go.Proofs.YtifefbhllfdmlaaGreatDoor
open Go Go.Vo
open Nat (reduceAdd reduceSub reduceMul reduceLeDiff reduceLT reduceEqDiff)
open Int (reduceNeg)

def rN (s : bX) (x : LTest) (so : Bool) : Bool :=
 if x.op = 1 then decide (1 ≤ x.term.kind) && (decide (x.term.kind ≤ 4) && (gO dD x.term && (decide (x.text = []) && decide (x.n = 0))))
 else if x.op = 2 then decide (x.term = zT) && (B3 x.text && (decide (0 ≤ x.n) && decide (x.n ≤ 8)))
 else if x.op = 3 ∨ x.op = 4 then decide (x.term = zT) && (decide (x.text = []) && (decide (0 ≤ x.n) && decide (x.n ≤ 2000)))
 else if x.op = 5 ∨ x.op = 7 then decide (x.term = zT) && (decide (x.text = []) && decide (x.n = 0))
 else if x.op = 6 then decide (x.term = zT) && (decide (x.n = 0) && (!so || dA s x.text))
 else false
theorem bDd (t : LTerm) (ht : OkT t) : CT 154 [elT t, .agg [.i .i64 0, .i .i64 0, .s [], .s [], .sl [] 0, .sl [] 0]] (.b (decide (t = zT))) := aMd t zT ht aCa
structure OkX (x : LTest) : Prop where
 term : OkT x.term
 text : x.text.length ≤ 140737488355328
theorem bGh (s : bX) (x : LTest) (so : Bool) (hx : OkX x): CT 98 [cB s, .agg (dF x), .b so] (.b (rN s x so)) := by
 refine bI mixed Tryz.func98 g0 ?_
 · simp -implicitDefEqProofs (disch := omega) only [Tryz.f98, go_sem, List.replicate, simprocAttr, dF, avt]
   have c1 := bDd x.term hx.term
   have c2 := aMi x.term hx.term
   have c3 := aVr x.text hx.text
   have c4 := H8 s x.text
   (refine zt4 c1 c2 c3 c4 ?_; repeat' first | exact trivial | refine zJ ?_ ?_ | refine zH fun hc => ?_)
   all_goals clear c1 c2 c3 c4
   all_goals exact aE (by (simp_all [rN, List.length_eq_zero_iff]) <;> (intros; omega)) rfl
def aKr (s : bX) (x : LTest) (t : LTerm) : Bool :=
 if x.op = 1 then decide (x.term = t)
 else if x.op = 2 then decide (t.kind = 5) && (decide (t.text = x.text) && decide ((t.kids.length : Int) = x.n))
 else if x.op = 3 then decide (t.kind = 7) && decide ((t.kids.length : Int) = x.n)
 else if x.op = 4 then decide (t.kind = 7) && decide (x.n ≤ (t.kids.length : Int))
 else if x.op = 5 then decide (t.kind = 8)
 else if x.op = 7 then decide (t.kind = 8) && decide (t.kids.length = 0)
 else iM s (pG s t) x.text
theorem bGf (s : bX) (x : LTest) (t : LTerm) (hs : Small s) (hx : OkX x) (ht : OkT t): CT 101 [cB s, .agg (dF x), elT t] (.b (aKr s x t)) := by
 refine bI mixed Tryz.func101 g0 ?_
 · simp -implicitDefEqProofs (disch := omega) only [Tryz.f101, go_sem, List.replicate, simprocAttr, dF, avt]
   have c1 := aMd x.term t hx.term ht
   have c2 := aMh s t
   have c3 := aRy s (pG s t) x.text hs
   (refine zt3 c1 c2 c3 ?_; repeat' first | exact trivial | refine zJ ?_ ?_ | refine zH fun hc => ?_)
   all_goals clear c1 c2 c3
   all_goals exact aE (by (simp_all [aKr]) <;> (intros; omega)) rfl
def rW : LTerm → List Int → Option LTerm
 | t, [] => some t
 | t, i :: p => if 0 ≤ i ∧ i < (t.kids.length : Int) then rW (t.kids.getD i.toNat default) p else none
def eJ (s : bX) (a : LAsk) (t : LTerm) : Bool := match rW t a.path with
 | some u => aKr s a.test u
 | none => false

def IntOk (i : Int) : Prop := -9223372036854775808 ≤ i ∧ i ≤ 9223372036854775807
theorem aOo {p : List Int} : ∀ {t u : LTerm}, OkT t → rW t p = some u → OkT u := by
 induction p with
 | nil => intro t u h e; simp only [rW, aA] at e; exact e ▸ h
 | cons i p ih =>
   intro t u h e
   rw [rW] at e
   split at e
   · exact ih (h.kid _ (aV (by omega))) e
   · cases e
theorem aDd (s : bX) (a : LAsk) (t : LTerm) (hs : Small s) (hx : OkX a.test) (hp : a.path.length ≤ 1000000) (ht : OkT t): CT 51 [cB s, .agg (aR a), elT t] (.b (eJ s a t)) := by
 refine bI mixed Tryz.func51 g0 ?_
 · simp -implicitDefEqProofs (disch := omega) only [Tryz.f51, go_sem, List.replicate, simprocAttr, aR, avt]
   (refine zs0 ?_; repeat' first | exact trivial | refine zJ ?_ ?_ | refine zH fun hc => ?_)
   refine bT (fun (s : Nat × LTerm) => [.k, .k, .k, .k, .k, .k, .j, .k, .j, .k, .k, .k, .v (.i .i64 (s.1 : Nat)), .j, .j, .j, .j, .j, .j, .j, .j, .j, .j, .j, .j, .j, .j, .j, .j, .j, .j, .k, .k, .k, .k, .k]) (fun s => [.box false (aR a), .box false [.i .i64 (s.2).kind, .i .i64 (s.2).n, .s (s.2).text, .s (s.2).sort, .sl ((s.2).kids.flatMap aD) (s.2).kids.length, .sl ((s.2).rest.flatMap aD) (s.2).rest.length]]) (fun s => s.1 ≤ a.path.length ∧ OkT s.2 ∧ rW t a.path = rW s.2 (a.path.drop s.1)) (fun s => a.path.length - s.1) ((0, t)) ⟨aG _, ht, rfl⟩ rfl (by simp [eQ]) ?_
   rintro ⟨k, u⟩ j ⟨hk, hu, hw⟩
   dsimp only at hk hu hw
   have hku := hu.kids
   by_cases hlt : k < a.path.length
   · have hki : (k : Int) < ((a.path.length : Nat) : Int) := by omega
     have hd : a.path.drop k = a.path.getD k 0 :: a.path.drop (k + 1) := by
       rw [bB hlt]; simp [List.getD, hlt]
     rw [hd, rW] at hw
     refine zh (zA2 (zt hki) @aR.eq_1) ?_
     (refine zx0 (zA2 (zt hki) @aR.eq_1) ?_; repeat' first | exact trivial | refine zJ ?_ ?_ | refine zH fun hc => ?_)
     · rw [if_neg (by omega)] at hw
       exact aE (by rw [eJ, hw]) rfl
     · have hi : 0 ≤ a.path.getD k 0 ∧ a.path.getD k 0 < (u.kids.length : Int) := by omega
       rw [if_pos hi] at hw
       exact ⟨(k + 1, u.kids.getD (a.path.getD k 0).toNat default), ⟨by dsimp only; omega, hu.kid _ (aV (by omega)), hw⟩, by dsimp only; omega, rfl, by simp⟩
     · rw [if_neg (by omega)] at hw
       exact aE (by rw [eJ, hw]) rfl
   · have hki : ¬ (k : Int) < ((a.path.length : Nat) : Int) := by omega
     rw [aQ (by omega), rW] at hw
     have c := bGf s a.test u hs hx hu
     simp only [dF, avt] at c
     refine zh (zA2 (zf hki) @aR.eq_1) ?_
     (refine zy1 (zA2 (zf hki) @aR.eq_1) c ?_; repeat' first | exact trivial | refine zJ ?_ ?_ | refine zH fun hc => ?_)
     exact aE (by rw [eJ, hw]) rfl
def qS (i : Int) : Bool := decide (i < 0) || decide (2000 < i)
theorem bJv (i : Int): CT 97 [.i .i64 i] (.b (qS i)) := by
 refine aF mixed Tryz.func97 g0 ?_
 · skip
   (refine zs0 ?_; repeat' first | exact trivial | refine zJ ?_ ?_ | refine zH fun hc => ?_)
   all_goals exact aE (by (simp_all [qS]) <;> (intros; omega)) rfl
theorem bEn (l : List Int) (hl : l.length ≤ 1000000): CT 153 [.sl (ints l) l.length, .fn 97 [] []] (.i .i64 (idx qS l)) := by
 refine aF mixed Tryz.func153 g0 ?_
 · skip
   (refine zs0 ?_; repeat' first | exact trivial | refine zJ ?_ ?_ | refine zH fun hc => ?_)
   refine bT (fun (k : Nat) => [.k, .k, .k, .k, .j, .j, .k, .k, .v (.i .i64 (k : Nat)), .j, .j, .j, .j, .j, .j, .j, .j, .j, .j]) (fun k => []) (fun k => k ≤ l.length ∧ ∀ j, j < k → qS (l.getD j 0) = false) (fun k => l.length - k) (0) ⟨aG _, fun j h => by omega⟩ rfl (by simp [eQ]) ?_
   rintro k j ⟨hk, hn⟩
   have c := bJv (l.getD k 0)
   refine zg ?_
   (refine zt1 c ?_; repeat' first | exact trivial | refine zJ ?_ ?_ | refine zH fun hc => ?_)
   · refine aE ?_ (by rfl)
     rw [kX (d := 0) (k := k) (by omega) hc hn]
   · exact ⟨k + 1, ⟨by omega, oN hn hc⟩, by omega, rfl⟩
   · refine aE ?_ (by rfl)
     rw [kY (fun j hj => hn j (by omega))]
theorem bFe (l : List Int) (hl : l.length ≤ 1000000): CT 96 [.sl (ints l) l.length, .fn 97 [] []] (.b (l.any qS)) := by
 refine aF mixed Tryz.func96 g0 ?_
 · skip
   (refine zt1 (bEn l hl) ?_; repeat' first | exact trivial | refine zJ ?_ ?_ | refine zH fun hc => ?_)
   all_goals exact aE (by rw [pL]) rfl
def eR (s : bX) (a : LAsk) : Bool := decide (a.path.length ≤ 60) && (!a.path.any qS && rN s a.test true)
structure OkK (a : LAsk) : Prop where
 test : OkX a.test
 path : a.path.length ≤ 1000000
theorem yA (s : bX) (a : LAsk) (ha : OkK a): CT 49 [cB s, .agg (aR a)] (.b (eR s a)) := by
 refine bI mixed Tryz.func49 g0 ?_
 · simp -implicitDefEqProofs (disch := omega) only [Tryz.f49, go_sem, List.replicate, simprocAttr, aR, avt]
   have c1 := bFe a.path ha.path
   have c2 := bGh s a.test true ha.test
   simp only [dF, avt] at c2
   rw [eR]
   generalize a.path.any qS = A at *
   generalize rN s a.test true = B at *
   (refine zt2 c1 c2 ?_; repeat' first | exact trivial | refine zJ ?_ ?_ | refine zH fun hc => ?_)
   all_goals clear c1 c2
   all_goals exact aE (by (simp_all) <;> (intros; omega)) rfl
def aKu (s : bX) (a : LAsk) (t : LTerm) : Bool × Int := if (cV s && (eR s a && kA s t)) = true then (eJ s a t, 0) else (false, 2)
def aDo (r : Bool × Int) : AV := .tup [.b r.1, .i .i64 r.2]
theorem bGv (s : bX) (a : LAsk) (t : LTerm) (hm : Small s) (hs : OkS s) (ha : OkK a) (ht : OkT t): CT 15 [.agg (aO s), .agg (aR a), elT t] (aDo (aKu s a t)) := by
 refine bI mixed Tryz.func15 g0 ?_
 · simp -implicitDefEqProofs (disch := omega) only [Tryz.f15, go_sem, List.replicate, simprocAttr, aDo, aR, avt]
   have c1 := aGh s hm hs
   have c3 := yA s a ha
   have c4 := aMj s t hm ht
   have c5 := aDd s a t hm ha.test ha.path ht
   simp only [aR, avt] at c3 c5
   rw [aKu]
   rcases fE (cV s) with h | h
   · have c2 := S5 s hm (gD h)
     rw [h] at c1
     (repeat' (first | refine gT ?_ ?_ | refine gF ?_ ?_ | refine gC ?_ ?_ | ((first | (refine aX (c1) ?_ ?_; (focus (simp -implicitDefEqProofs (disch := omega) only [zdB, go_sem, simprocAttr]; done))) | (refine aX (c2) ?_ ?_; (focus (simp -implicitDefEqProofs (disch := omega) only [zdB, go_sem, simprocAttr]; done))) | (refine aX (c3) ?_ ?_; (focus (simp -implicitDefEqProofs (disch := omega) only [zdB, go_sem, simprocAttr]; done))) | (refine aX (c4) ?_ ?_; (focus (simp -implicitDefEqProofs (disch := omega) only [zdB, go_sem, simprocAttr]; done))) | (refine aX (c5) ?_ ?_; (focus (simp -implicitDefEqProofs (disch := omega) only [zdB, go_sem, simprocAttr]; done)))); simp -implicitDefEqProofs (disch := omega) only [go_sem, simprocAttr]) | refine aZ (by omega) ?_ | (intro hr; have hc := hr; (try simp only [zdz] at hc); simp -implicitDefEqProofs (disch := omega) only [hr, go_sem, simprocAttr]; (try clear hr))))
     all_goals clear c1 c2 c3 c4 c5
     all_goals exact aE (by simp_all) rfl
   · rw [h] at c1
     (refine zt1 c1 ?_; repeat' first | exact trivial | refine zJ ?_ ?_ | refine zH fun hc => ?_)
     all_goals exact aE (by rw [h]; rfl) rfl

@[simp] theorem bBx : nodesL [] = 0 := rfl
@[simp] theorem bEr : highL [] = 0 := rfl

def pF (t : LTerm) (i : Int) : Bool := decide (0 ≤ i) && decide (i < t.kids.length)
def kidAt (t : LTerm) (i : Int) : LTerm := t.kids.getD i.toNat default
def qN : LTerm → List Int → LTerm
 | t, [] => t
 | t, i :: p => if pF t i then qN (kidAt t i) p else t
def V4 : LTerm → List Int → Bool
 | _, [] => true
 | t, i :: p => pF t i && V4 (kidAt t i) p
theorem drop_at {p : List Int} {k : Nat} (h : k < p.length) : p.drop k = p.getD k 0 :: p.drop (k + 1) := by
 rw [bB h]; simp [List.getD, h]
def PathOk (p : List Int) : Prop := p.length ≤ 140737488355328 ∧ ∀ i ∈ p, -9223372036854775808 ≤ i ∧ i ≤ 9223372036854775807
theorem PathOk.at {p : List Int} (h : PathOk p) {k : Nat} (hk : k < p.length) : -9223372036854775808 ≤ p.getD k 0 ∧ p.getD k 0 ≤ 9223372036854775807 := h.2 _ (aV hk)
theorem OkT.kidAt {t : LTerm} (h : OkT t) {i : Int} (hi : pF t i = true) : OkT (kidAt t i) := by
 simp only [pF, aB, decide_eq_true_eq] at hi
 exact h.kid _ (aV (by omega))
def aPm (t : LTerm) (b : Bool) : AV := .tup [elT t, .b b]
theorem aLi {H : List AObj} {t : LTerm} {v4 v5 : AV} {c : Bool} (r4 : Rd6 H v4 t.kids) (r5 : Rd6 H v5 t.rest) : Fin H (.tup [.agg [.i .i64 t.kind, .i .i64 t.n, .s t.text, .s t.sort, v4, v5], .b c]) (aPm t c) := by
 have e4 := xD r4
 have e5 := xD r5
 have hn : bK (.tup [.agg [.i .i64 t.kind, .i .i64 t.n, .s t.text, .s t.sort, v4, v5], .b c]) (aPm t c) = [] := by
   simp only [aPm, elT, bK, finIdsL, bC, e4.2, e5.2, List.append_nil]
 refine .inr ⟨?_, ?_, ?_⟩
 · rw [aPm, elT, bC]; exact ⟨⟨rfl, rfl, rfl, rfl, e4.1, e5.1, trivial⟩, rfl, trivial⟩
 · rw [hn]; exact eC
 · rw [hn]; simp
theorem aZw {H : List AObj} {t u : LTerm} {b c : Bool} (h : t = u) (hb : b = c) : Fin H (.tup [.agg [.i .i64 u.kind, .i .i64 u.n, .s u.text, .s u.sort, .sl (u.kids.flatMap aD) u.kids.length, .sl (u.rest.flatMap aD) u.rest.length], .b c]) (aPm t b) := by
 subst h hb
 exact aLi aBt aBt
theorem bHa (t : LTerm) (p : List Int) (ht : OkT t) (hp : PathOk p): CT 174 [elT t, avi p] (aPm (if V4 t p then qN t p else tZ) (V4 t p)) := by
 refine bI mixed Tryz.func174 g0 ?_
 · generalize hR : ((aPm (if V4 t p then qN t p else tZ) (V4 t p)) : AV) = R
   simp -implicitDefEqProofs (disch := omega) only [Tryz.f174, go_sem, List.replicate, simprocAttr, avi]
   (refine zs0 ?_; repeat' first | exact trivial | refine zJ ?_ ?_ | refine zH fun hc => ?_)
   refine bT (fun (s : Nat × LTerm) => [.k, .k, .k, .k, .k, .j, .k, .j, .k, .k, .v (.i .i64 (s.1 : Nat)), .j, .j, .j, .j, .j, .j, .j, .j, .j, .j, .j, .j, .j, .j, .j, .j, .j, .j, .j, .k]) (fun s => [.box false [.i .i64 (s.2).kind, .i .i64 (s.2).n, .s (s.2).text, .s (s.2).sort, .sl ((s.2).kids.flatMap aD) (s.2).kids.length, .sl ((s.2).rest.flatMap aD) (s.2).rest.length], .box false [.i .i64 0, .i .i64 0, .s [], .s [], .e0, .e0]]) (fun s => (s.1 ≤ p.length ∧ OkT s.2) ∧ qN t p = qN s.2 (p.drop s.1) ∧ V4 t p = V4 s.2 (p.drop s.1)) (fun s => p.length - s.1) ((0, t)) ⟨⟨aG _, ht⟩, rfl, rfl⟩ rfl (by simp [eQ]) ?_
   rintro ⟨k, u⟩ j ⟨⟨hk, hu⟩, h1, h2⟩
   dsimp only at hk hu h1 h2
   have hq := hp.1
   have hb := fun h => hp.at (k := k) h
   have hl := hu.kids
   refine zg ?_
   (refine zs0 ?_; repeat' first | exact trivial | refine zJ ?_ ?_ | refine zH fun hc => ?_)
   · have hn : pF u (p.getD k 0) = false := by simp only [pF, gI, decide_eq_false_iff_not]; omega
     rw [drop_at (by omega)] at h1 h2
     rw [qN, if_neg (by rw [hn]; simp)] at h1
     rw [V4, hn, Bool.false_and] at h2
     subst hR
     (rw [h2, if_neg (by simp)]; exact aLi (t := tZ) uS uS)
   · have hn : pF u (p.getD k 0) = true := by simp only [pF, aB, decide_eq_true_eq]; omega
     rw [drop_at (by omega)] at h1 h2
     rw [qN, if_pos hn] at h1
     rw [V4, hn, Bool.true_and] at h2
     exact ⟨(k + 1, kidAt u (p.getD k 0)), ⟨⟨by dsimp only; omega, hu.kidAt hn⟩, h1, h2⟩, by dsimp only; omega, rfl, by simp⟩
   · have hn : pF u (p.getD k 0) = false := by simp only [pF, gI, decide_eq_false_iff_not]; omega
     rw [drop_at (by omega)] at h1 h2
     rw [qN, if_neg (by rw [hn]; simp)] at h1
     rw [V4, hn, Bool.false_and] at h2
     subst hR
     (rw [h2, if_neg (by simp)]; exact aLi (t := tZ) uS uS)
   · rw [aQ (by omega)] at h1 h2
     rw [qN] at h1
     rw [V4] at h2
     subst hR
     exact aZw (by first | exact h1 | (rw [h2]; exact h1)) h2
def atV (t : LTerm) (p : List Int) : Res := if gO dD t then (if V4 t p then (qN t p, 0) else (tZ, 4)) else (tZ, 2)
theorem bHc (t : LTerm) (p : List Int) (ht : OkT t) (hp : PathOk p): CT 109 [elT t, avi p] (aXq (atV t p)) := by
 refine bI mixed Tryz.func109 g0 ?_
 · generalize hR : ((aXq (atV t p)) : AV) = R
   simp -implicitDefEqProofs (disch := omega) only [Tryz.f109, go_sem, List.replicate, simprocAttr, avi]
   have c := aMg t ht
   have c1 := bHa t p ht hp
   cases hv : gO dD t with
   | false =>
     rw [hv] at c
     (refine zt1 c ?_; repeat' first | exact trivial | refine zJ ?_ ?_ | refine zH fun hc => ?_)
     subst hR
     exact aLj (by rw [atV, hv]; rfl) uS uS
   | true =>
     rw [hv] at c
     cases ha : V4 t p with
     | false =>
       rw [ha, if_neg (by simp)] at c1
       (refine zy2 @aPm.eq_1 c c1 ?_; repeat' first | exact trivial | refine zJ ?_ ?_ | refine zH fun hc => ?_)
       subst hR
       exact aLj (by rw [atV, hv, ha]; rfl) uS uS
     | true =>
       rw [ha, if_pos rfl] at c1
       (refine zy2 @aPm.eq_1 c c1 ?_; repeat' first | exact trivial | refine zJ ?_ ?_ | refine zH fun hc => ?_)
       subst hR
       have he : atV t p = (qN t p, 0) := by rw [atV, hv, ha]; rfl
       exact aRp he

theorem aXj (t : LTerm) (ht : OkT t) : CT 74 [elT t, .agg [.i .i64 0, .i .i64 0, .s [], .s [], .sl [] 0, .sl [] 0]] (.b (decide (t = zT))) := aDk t zT ht aCa
def F0 (t : LTerm) : Bool := decide (t.kind = 1) || (decide (t.kind = 2) || (decide (t.kind = 3) || decide (t.kind = 4)))
theorem bFt (t : LTerm): CT 170 [elT t] (.b (F0 t)) := by
 refine aF mixed Tryz.func170 g0 ?_
 · skip
   (refine zs0 ?_; repeat' first | exact trivial | refine zJ ?_ ?_ | refine zH fun hc => ?_)
   all_goals exact aE (by simp_all [F0]) rfl
theorem bGe (s : bX) (x : LTest) (hm : Small s) (hs : OkS s) (hv : cV s = true) (hx : OkX x): CT 107 [.agg (aO s), .agg (dF x)] (.b (rN s x true)) := by
 refine bI mixed Tryz.func107 g0 ?_
 · simp -implicitDefEqProofs (disch := omega) only [Tryz.f107, go_sem, List.replicate, simprocAttr, dF, avt]
   have c1 := aXj x.term hx.term
   have c2 := aMg x.term hx.term
   have c3 := aMl x.text hx.text
   have c4 := bTf s x.text hm hs
   have h0 : nV s [] = 0 := aUf hv rfl
   have c5 := bFt x.term
   rw [h0] at c4
   have e : rN s x true = (if (¬ x.op = 1 ∧ ¬ x.term = zT) ∨ (¬ x.op = 2 ∧ ¬ x.op = 6 ∧ ¬ x.text.length = 0) then false
     else if x.op = 1 then decide (x.n = 0) && (F0 x.term && gO dD x.term)
     else if x.op = 2 then dM (qR x.text) && (decide (0 ≤ x.n) && decide (x.n ≤ 8))
     else if x.op = 3 ∨ x.op = 4 then decide (0 ≤ x.n) && decide (x.n ≤ 2000)
     else if x.op = 5 ∨ x.op = 7 then decide (x.n = 0)
     else if x.op = 6 then decide (x.n = 0) && dA s x.text
     else false) := by
     unfold rN F0 B3
     by_cases h1 : x.op = 1
     · have hk : (decide (1 ≤ x.term.kind) && decide (x.term.kind ≤ 4)) = (decide (x.term.kind = 1) || (decide (x.term.kind = 2) || (decide (x.term.kind = 3) || decide (x.term.kind = 4)))) := by
         rw [← Bool.decide_and, ← Bool.decide_or, ← Bool.decide_or, ← Bool.decide_or]
         exact decide_eq_decide.2 (by omega)
       simp only [h1, if_true, ← hk]
       generalize decide (1 ≤ x.term.kind) = A
       generalize decide (x.term.kind ≤ 4) = B
       generalize gO dD x.term = C
       by_cases ht : x.text = [] <;> by_cases hn : x.n = 0 <;> simp [ht, hn, List.length_eq_zero_iff, mE]
     · generalize gO dD x.term = C
       by_cases ht : x.text = [] <;> by_cases hz : x.term = zT <;> simp [h1, ht, hz, List.length_eq_zero_iff]
       all_goals (by_cases h2 : x.op = 2 <;> by_cases h6 : x.op = 6 <;> simp_all)
   rw [e]
   clear e
   by_cases h1 : x.op = 1
   · have g2 : ¬ x.op = 2 := by omega
     have g6 : ¬ x.op = 6 := by omega
     refine zh (zA2 (zt h1) (zA2 (zf g2) (zf g6))) ?_
     (refine zy2 (zA2 (zt h1) (zA2 (zf g2) (zf g6))) c2 c5 ?_; repeat' first | exact trivial | refine zJ ?_ ?_ | refine zH fun hc => ?_)
     all_goals clear c1 c2 c3 c4 c5
     all_goals (refine aE ?_ rfl)
     all_goals simp_all
   · by_cases h2 : x.op = 2
     · refine zh (zA2 (zf h1) (zt h2)) ?_
       (refine zy2 (zA2 (zf h1) (zt h2)) c1 c3 ?_; repeat' first | exact trivial | refine zJ ?_ ?_ | refine zH fun hc => ?_)
       all_goals clear c1 c2 c3 c4 c5
       all_goals (refine aE ?_ rfl)
       all_goals simp_all
     · by_cases h6 : x.op = 6
       · have g3 : ¬ x.op = 3 := by omega
         have g4 : ¬ x.op = 4 := by omega
         have g5 : ¬ x.op = 5 := by omega
         have g7 : ¬ x.op = 7 := by omega
         refine zh (zA2 (zf h1) (zA2 (zf h2) (zA2 (zt h6) (zA2 (zf g3) (zA2 (zf g4) (zA2 (zf g5) (zf g7))))))) ?_
         (refine zy2 (zA2 (zf h1) (zA2 (zf h2) (zA2 (zt h6) (zA2 (zf g3) (zA2 (zf g4) (zA2 (zf g5) (zf g7))))))) c1 c4 ?_; repeat' first | exact trivial | refine zJ ?_ ?_ | refine zH fun hc => ?_)
         all_goals clear c1 c2 c3 c4 c5
         all_goals (refine aE ?_ rfl)
         all_goals simp_all
       · refine zh (zA2 (zf h1) (zA2 (zf h2) (zf h6))) ?_
         (refine zy1 (zA2 (zf h1) (zA2 (zf h2) (zf h6))) c1 ?_; repeat' first | exact trivial | refine zJ ?_ ?_ | refine zH fun hc => ?_)
         all_goals clear c1 c2 c3 c4 c5
         all_goals (refine aE ?_ rfl)
         all_goals simp_all
theorem L9 (s : bX) (t : LTerm) (x : Str) (hm : Small s) (hs : OkS s) (hv : cV s = true) (hz : 1 ≤ t.kind ∧ t.kind ≤ 8) (hp : iY s t = true): CT 175 [.agg (aO s), elT t, .s x] (.b (iM s (pG s t) x)) := by
 refine aF mixed Tryz.func175 g0 ?_
 · skip
   obtain ⟨q1, q2⟩ := zY hv hz hp
   (refine zy2 @q1 (aVw s t hs) (bFl s (pG s t) x hm) ?_; repeat' first | exact trivial | refine zJ ?_ ?_ | refine zH fun hc => ?_)
   all_goals exact aE (by rw [aBc q2]) rfl
theorem bGd (s : bX) (x : LTest) (t : LTerm) (hm : Small s) (hs : OkS s) (hv : cV s = true) (hx : OkX x) (ht : OkT t) (hk : 1 ≤ t.kind ∧ t.kind ≤ 8) (hp : iY s t = true): CT 110 [.agg (aO s), .agg (dF x), elT t] (.b (aKr s x t)) := by
 refine bI mixed Tryz.func110 g0 ?_
 · simp -implicitDefEqProofs (disch := omega) only [Tryz.f110, go_sem, List.replicate, simprocAttr, dF, avt]
   have c1 := aDk x.term t hx.term ht
   have c2 : CT 175 [.agg (aO s), elT t, .s x.text] (.b (iM s (pG s t) x.text)) := L9 s t x.text hm hs hv hk hp
   (refine zt2 c1 c2 ?_; repeat' first | exact trivial | refine zJ ?_ ?_ | refine zH fun hc => ?_)
   all_goals clear c1 c2
   all_goals exact aE (by (simp_all [aKr]) <;> (intros; omega)) rfl
theorem aWr {p : List Int} : ∀ {t : LTerm}, rW t p = if V4 t p = true then some (qN t p) else none := by
 induction p with
 | nil => intro t; rfl
 | cons i p ih =>
   intro t
   rw [rW, V4, qN, pF]
   by_cases h : 0 ≤ i ∧ i < (t.kids.length : Int)
   · rw [if_pos h, ih, zt h.1, zt h.2]; rfl
   · rw [if_neg h]
     have : (decide (0 ≤ i) && decide (i < (t.kids.length : Int))) = false := by rw [← Bool.decide_and]; exact zf h
     rw [this]; rfl
theorem aEo {s : bX} {p : List Int} : ∀ {t u : LTerm}, wfT dD t = true → iY s t = true → rW t p = some u → wfT dD u = true ∧ iY s u = true := by
 induction p with
 | nil => intro t u h1 h2 e; simp only [rW, aA] at e; exact e ▸ ⟨h1, h2⟩
 | cons i p ih =>
   intro t u h1 h2 e
   rw [rW] at e
   split at e
   · rw [M0] at h1
     rw [sN] at h2
     simp only [aB, aU] at h2
     have hm : t.kids.getD i.toNat default ∈ t.kids := aV (by omega)
     exact ih (h1.2 _ hm) (h2.1.2 _ hm) e
   · cases e
theorem aVk (s : bX) (a : LAsk) (t : LTerm) (hm : Small s) (hs : OkS s) (hv : cV s = true) (hx : OkX a.test) (hp : PathOk a.path) (ht : OkT t) (hpl : kA s t = true): CT 55 [.agg (aO s), .agg (aR a), elT t] (.b (eJ s a t)) := by
 refine bI mixed Tryz.func55 g0 ?_
 · simp -implicitDefEqProofs (disch := omega) only [Tryz.f55, go_sem, List.replicate, simprocAttr, aR, avt]
   have hpv := hpl
   rw [kA, aB] at hpv
   have c1 := bHc t a.path ht hp
   have hw := aWr (t := t) (p := a.path)
   rw [atV, hpv.1, if_pos rfl] at c1
   simp only [avi] at c1
   cases ha : V4 t a.path with
   | false =>
     rw [ha, if_neg (by simp)] at hw
     rw [ha, if_neg (by simp)] at c1
     (refine zy1 @aXq.eq_1 c1 ?_; repeat' first | exact trivial | refine zJ ?_ ?_ | refine zH fun hc => ?_)
     all_goals exact aE (by rw [eJ, hw]) rfl
   | true =>
     rw [ha, if_pos rfl] at hw
     rw [ha, if_pos rfl] at c1
     obtain ⟨q1, q2⟩ := aEo (aBa hpv.1) hpv.2 hw
     have z := aWq _ q1
     have hkk : 1 ≤ (qN t a.path).kind ∧ (qN t a.path).kind ≤ 8 := by cases z with | mk a _ _ => exact a.f
     have c2 := bGd s a.test (qN t a.path) hm hs hv hx (aOo ht hw) hkk q2
     simp only [dF, avt] at c2
     (refine zy2 @aXq.eq_1 c1 c2 ?_; repeat' first | exact trivial | refine zJ ?_ ?_ | refine zH fun hc => ?_)
     all_goals exact aE (by rw [eJ, hw]) rfl
theorem aEd {l : List Int} {k : Nat} (hk : k < l.length) (h : qS (l.getD k 0) = true) : l.any qS = true := List.any_eq_true.2 ⟨_, aV hk, h⟩
theorem aTm {l : List Int} (h : ∀ j, j < l.length → qS (l.getD j 0) = false) : l.any qS = false := by
 rw [List.any_eq_false]
 intro x hx
 obtain ⟨j, hj, rfl⟩ := bR.1 hx
 have := h j hj
 simp [List.getD, hj] at this
 simp [this]
theorem aLx (s : bX) (a : LAsk) (hm : Small s) (hs : OkS s) (hv : cV s = true) (ha : OkK a): CT 53 [.agg (aO s), .agg (aR a)] (.b (eR s a)) := by
 refine bI mixed Tryz.func53 g0 ?_
 · simp -implicitDefEqProofs (disch := omega) only [Tryz.f53, go_sem, List.replicate, simprocAttr, aR, avt]
   have hp := ha.path
   have c1 := bGe s a.test hm hs hv ha.test
   simp only [dF, avt] at c1
   (refine zs0 ?_; repeat' first | exact trivial | refine zJ ?_ ?_ | refine zH fun hc => ?_)
   refine bT (fun (k : Nat) => [.k, .k, .k, .k, .j, .k, .j, .k, .k, .k, .v (.i .i64 (k : Nat)), .j, .j, .j, .j, .j, .j, .j, .j, .j, .j, .k, .k, .k, .k, .k, .k, .k, .k, .k, .k]) (fun k => [.box false (aO s), .box false (aR a)]) (fun k => k ≤ a.path.length ∧ ∀ j, j < k → qS (a.path.getD j 0) = false) (fun k => a.path.length - k) (0) ⟨aG _, fun j h => by omega⟩ rfl (by simp [eQ]) ?_
   rintro k j ⟨hk, hn⟩
   refine zh (zA2 @aR.eq_1 @avt.eq_1) ?_
   (refine zy1 (zA2 @aR.eq_1 @avt.eq_1) c1 ?_; repeat' first | exact trivial | refine zJ ?_ ?_ | refine zH fun hc => ?_)
   all_goals clear c1
   · exact aE (by rw [eR, aEd (k := k) (by omega) (by rw [qS, zt hc, cR]), Bool.not_true, Bool.false_and, Bool.and_false]) rfl
   · exact ⟨k + 1, ⟨by omega, oN hn (by rw [qS, zf (by assumption), zf (by assumption)]; rfl)⟩, by omega, rfl⟩
   · exact aE (by rw [eR, aEd (k := k) (by omega) (by rw [qS, zt hc, cQ]), Bool.not_true, Bool.false_and, Bool.and_false]) rfl
   all_goals rw [eR, aTm (fun j hj => hn j (by omega))]
   all_goals exact aE (by (simp_all) <;> (intros; omega)) rfl

theorem bLv : (41 : Nat) ≠ 3 := by decide
theorem bTk {h : List AObj} : hY Tryz.prog h .cap #[41] [.e0] = some (.i .i64 0, h) := aMw bQw
theorem bOm {dr : Option DR} {d : Option Nat} {os : List fD} {K : List AV → List AObj → Prop} {env : List AV} {h : List AObj} {s x : Operand} : dK Tryz.prog G0 dr (.call ⟨.builtin .append, #[s, x], #[41, 3]⟩) d os K env h = L7 Tryz.prog G0 dr (Tryz.prog.underlying 3) (nO Tryz.prog h 41 (aev G0 env s) (aev G0 env x)) d os K env := sM bLv
attribute [go_sem] bTk
attribute [go_sem ↓] bOm
theorem bFr (n : Nat) (hn : n ≤ 1000000): CT 221 [.e0, .i .i64 n] (.own 10 [] 0) := by
 refine aF mixed Tryz.func221 g0 ?_
 · skip
   (refine zs0 ?_; repeat' first | exact trivial | refine zJ ?_ ?_ | refine zH fun hc => ?_)
   · exfalso; omega
   · rw [if_pos (by omega), if_neg (by omega)]
     refine zg ?_
     refine ⟨by simp [List.length_flatten], ?_⟩
     exact .inr ⟨⟨rfl, rfl, _, rfl, by simp, by simp, rfl⟩, by simp [bK], by simp [bK, hJ]⟩
   · exact .inr ⟨⟨rfl, rfl⟩, by simp [bK], by simp [bK]⟩
theorem Z1 {l : List (List LAsk)} {k : Nat} (h : k < l.length) : (l.map ava)[k]? = some (ava (l.getD k [])) := by simp [h]
attribute [go_sem] Z1 ava
def N1 (l : List (List LAsk)) : Nat := l.flatten.length
@[simp] theorem bKo : N1 [] = 0 := rfl
theorem wR {l : List (List LAsk)} {k : Nat} (h : k < l.length) : N1 (l.take (k + 1)) = N1 (l.take k) + (l.getD k []).length := by
 rw [eX (d := []) h]; simp [N1]
theorem aIa {l : List (List LAsk)} {k : Nat} : N1 (l.take k) ≤ N1 l := by
 have h : (l.take k ++ l.drop k).flatten.length = l.flatten.length := by rw [gH]
 unfold N1
 rw [jH, aI] at h
 omega
theorem aIb {l : List (List LAsk)} {k : Nat} (h : k < l.length) : N1 (l.take k) + (l.getD k []).length ≤ N1 l := by
 rw [← wR h]; exact aIa
theorem aLw (l : List (List LAsk)) (hl : l.length ≤ 1000) (hs : N1 l ≤ 1000000): CT 181 [.sl (l.map ava) l.length] (ava l.flatten) := by
 refine aF mixed Tryz.func181 g0 ?_
 · skip
   refine bT (fun (k : Nat) => [.k, .k, .k, .v (.i .i64 (N1 (l.take k) : Nat)), .k, .j, .k, .k, .k, .k, .k, .v (.i .i64 k), .j, .j, .j, .j, .j, .j, .j, .j, .j, .j, .j, .k, .k, .k, .k, .k, .k, .k, .k, .k, .k, .k, .k, .k]) (fun k => []) (fun k => k ≤ l.length) (fun k => l.length - k) (0) (aG _) rfl (by simp [eQ]) ?_
   rintro k j hk
   have hat : k < l.length → N1 (l.take k) + (l.getD k []).length ≤ N1 l := aIb
   have hkk := aIa (l := l) (k := k)
   refine zg ?_
   (refine zs0 ?_; repeat' first | exact trivial | refine zJ ?_ ?_ | refine zH fun hc => ?_)
   · exfalso; omega
   · refine ⟨k + 1, by omega, by omega, ?_, by simp⟩
     rw [wR (by omega)]; simp
   · have h1 : k = l.length := by omega
     subst h1
     refine aMy (bFr (N1 l) (by omega)) (by simp -implicitDefEqProofs (disch := omega) only [aPc, go_sem, simprocAttr]) ?_
     refine zg ?_
     refine bT (fun (t : Nat × AV × List AObj) => [.k, .k, .k, .k, .k, .k, .v (t.2.1), .k, .j, .k, .k, .k, .k, .k, .k, .k, .k, .k, .k, .k, .k, .k, .k, .k, .k, .k, .k, .v (.i .i64 (t.1 : Nat)), .j, .j, .j, .j, .j, .j, .j, .k]) (fun t => t.2.2) (fun t => t.1 ≤ l.length ∧ eZ 10 0 t.2.2 t.2.1 ((l.take t.1).flatten.flatMap aR) (N1 (l.take t.1))) (fun t => l.length - t.1) ((0, .hs 0 0 0 false, [.arr false 10 []])) ⟨aG _, .inr ⟨0, rfl, rfl, rfl⟩⟩ rfl (by simp [eQ]) ?_
     rintro ⟨k, out, g⟩ j ⟨hk, ho⟩
     dsimp only at hk ho
     have hat : k < l.length → N1 (l.take k) + (l.getD k []).length ≤ N1 l := aIb
     refine zg ?_
     (refine zs0 ?_; repeat' first | exact trivial | refine zJ ?_ ?_ | refine zH fun hc => ?_)
     · refine fN (more := []) (pre := []) (news := (l.getD k []).flatMap aR) (m := (l.getD k []).length) ho rfl (by simp) bTb bQl bRk bTm rfl (by decide) (by simp -implicitDefEqProofs (disch := omega) only [go_sem, simprocAttr]) (by simp -implicitDefEqProofs (disch := omega) only [go_sem, simprocAttr]) ⟨by omega, by omega⟩ ?_
       intro out' g' ho' _
       refine zg ?_
       refine ⟨(k + 1, out', g'), ⟨by omega, ?_⟩, by simp; omega, rfl, by simp⟩
       dsimp only
       rw [wR (by omega), eX (d := []) (by omega), jH, uM]
       simpa using ho'
     · have h1 : k = l.length := by omega
       subst h1
       rw [iB] at ho
       exact R8 (pre := []) (sz := 10) ho B0
end Go.Proofs.YtifefbhllfdmlaaGreatDoor
