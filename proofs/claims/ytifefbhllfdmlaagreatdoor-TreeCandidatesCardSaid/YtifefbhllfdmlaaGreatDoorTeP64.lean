/-
  What functions of the chapter return, as plain functions of what they are given; no condition beyond those that each theorem names.
-/
import Derived.Test.YtifefbhllfdmlaaGreatDoorTeP63
import Derived.Test.YtifefbhllfdmlaaGreatDoorSoP63
import Derived.Test.YtifefbhllfdmlaaGreatDoorVoP66
set_option maxRecDepth 100000
set_option linter.unusedSimpArgs false
set_option linter.unusedVariables false
set_option maxHeartbeats 4000000
namespace Go.Proofs.YtifefbhllfdmlaaGreatDoor
open Go Go.Vo
open Nat (reduceAdd reduceSub reduceMul reduceLeDiff reduceLT reduceEqDiff)
open Int (reduceNeg)

theorem T4 (n : Int) (h0 : -9223372036854775808 ≤ n) (h1 : n ≤ 9223372036854775807) : CT 178 [.i .i64 n] (.s (Lib.itoa n)) := by
 refine ⟨by kernel_rfl, g0, ?_⟩
 intro F w vs hF hgl hl hr
 obtain ⟨v0, rfl⟩ := aUr hl
 have e0 := rH (hr 0 _ v0 rfl rfl)
 subst e0
 refine (Tryz.strconv_Itoa n h0 h1 w (bBo (by kernel_rfl) (hgl 2 (.box F7 0) rfl))).mono ?_
 rintro e w' ⟨rfl, k, os, rfl⟩
 have hgr : wX w (Sort.grow (w.drewN k) os) := by
   refine ⟨fun b hb => ?_, ?_, rfl, rfl, rfl⟩
   · simp only [Sort.grow, World.drewN]; rw [fR hb]
   · simp only [Sort.grow, World.drewN, Array.size_append]; omega
 exact ⟨_, F, [], rfl, hgr, fun _ h => h, fun _ h => .inl h, fun b hb => eF (hF b hb) hgr.size, RR.val (.s _), dC, by simp⟩

abbrev neq : Str := [101, 113]
abbrev Res := LTerm × Int
def aYb (p : Res) : AV := bCi p.1 p.2
attribute [go_sem] aYb
theorem aLh {H : List AObj} {p : Res} {k n e : Int} {t s : Str} {ks rs : List LTerm} {v4 v5 : AV} (h : p = (.mk k n t s ks rs, e)) (r4 : Rd6 H v4 ks) (r5 : Rd6 H v5 rs) : Fin H (.tup [.agg [.i .i64 k, .i .i64 n, .s t, .s s, v4, v5], .i .i64 e]) (aYb p) := by
 subst h
 exact aVe (t := .mk k n t s ks rs) r4 r5
theorem aRm {H : List AObj} {p q : Res} (h : p = q) : Fin H (.tup [.agg [.i .i64 q.1.kind, .i .i64 q.1.n, .s q.1.text, .s q.1.sort, .sl (q.1.kids.flatMap aC) q.1.kids.length, .sl (q.1.rest.flatMap aC) q.1.rest.length], .i .i64 q.2]) (aYb p) := by
 subst h
 exact aVe (t := p.1) aBn aBn

theorem bLq : (28 : Nat) ≠ 3 := by decide
theorem bSj {h : List AObj} : iB Tryz.prog h .cap #[28] [.e0] = some (.i .i64 0, h) := aMo bQf
theorem bNz {dr : Option DR} {d : Option Nat} {os : List fN} {K : List AV → List AObj → Prop} {env : List AV} {h : List AObj} {s x : Operand} : dJ Tryz.prog G0 dr (.call ⟨.builtin .append, #[s, x], #[28, 3]⟩) d os K env h = L9 Tryz.prog G0 dr (Tryz.prog.underlying 3) (oC Tryz.prog h 28 (aev G0 env s) (aev G0 env x)) d os K env := sV bLq
attribute [go_sem] bSj
attribute [go_sem ↓] bNz
theorem bHe (n : Nat) (hn : n ≤ 1000000): CT 227 [.e0, .i .i64 n] (.own 6 [] 0) := by
 refine aF mixed Tryz.func227 g0 ?_
 · skip
   (refine zs0 ?_; repeat' first | exact trivial | refine zJ ?_ ?_ | refine zH fun hc => ?_)
   · exfalso; omega
   · rw [if_pos (by omega), if_neg (by omega)]
     refine zg ?_
     refine ⟨by simp [List.length_flatten], ?_⟩
     exact .inr ⟨⟨rfl, rfl, _, rfl, by simp, by simp, rfl⟩, by simp [bS], by simp [bS, iA]⟩
   · exact .inr ⟨⟨rfl, rfl⟩, by simp [bS], by simp [bS]⟩
theorem Z1 {l : List (List LTerm)} {k : Nat} (h : k < l.length) : (l.map avt)[k]? = some (avt (l.getD k [])) := by simp [h]
attribute [go_sem] Z1
def K9 (l : List (List LTerm)) : Nat := l.flatten.length
@[simp] theorem bKi : K9 [] = 0 := rfl
theorem xD {l : List (List LTerm)} {k : Nat} (h : k < l.length) : K9 (l.take (k + 1)) = K9 (l.take k) + (l.getD k []).length := by
 rw [eU (d := []) h]; simp [K9]
theorem aHw {l : List (List LTerm)} {k : Nat} : K9 (l.take k) ≤ K9 l := by
 have h : (l.take k ++ l.drop k).flatten.length = l.flatten.length := by rw [gI]
 unfold K9
 rw [jP, aH] at h
 omega
theorem aHx {l : List (List LTerm)} {k : Nat} (h : k < l.length) : K9 (l.take k) + (l.getD k []).length ≤ K9 l := by
 rw [← xD h]; exact aHw
theorem bHj (l : List (List LTerm)) (hl : l.length ≤ 1000) (hs : K9 l ≤ 1000000): CT 189 [.sl (l.map avt) l.length] (avt l.flatten) := by
 refine aF mixed Tryz.func189 g0 ?_
 · skip
   refine bP (fun (k : Nat) => [.k, .k, .k, .v (.i .i64 (K9 (l.take k) : Nat)), .k, .j, .k, .k, .k, .k, .k, .v (.i .i64 k), .j, .j, .j, .j, .j, .j, .j, .j, .j, .j, .j, .k, .k, .k, .k, .k, .k, .k, .k, .k, .k, .k, .k, .k]) (fun k => []) (fun k => k ≤ l.length) (fun k => l.length - k) (0) (aG _) rfl (by simp [eN]) ?_
   rintro k j hk
   have hat : k < l.length → K9 (l.take k) + (l.getD k []).length ≤ K9 l := aHx
   have hkk := aHw (l := l) (k := k)
   refine zg ?_
   (refine zs0 ?_; repeat' first | exact trivial | refine zJ ?_ ?_ | refine zH fun hc => ?_)
   · exfalso; omega
   · refine ⟨k + 1, by omega, by omega, ?_, by simp⟩
     rw [xD (by omega)]; simp
   · have h1 : k = l.length := by omega
     subst h1
     refine aMq (bHe (K9 l) (by omega)) (by simp -implicitDefEqProofs (disch := omega) only [aPb, go_sem, simprocAttr]) ?_
     refine zg ?_
     refine bP (fun (t : Nat × AV × List AObj) => [.k, .k, .k, .k, .k, .k, .v (t.2.1), .k, .j, .k, .k, .k, .k, .k, .k, .k, .k, .k, .k, .k, .k, .k, .k, .k, .k, .k, .k, .v (.i .i64 (t.1 : Nat)), .j, .j, .j, .j, .j, .j, .j, .k]) (fun t => t.2.2) (fun t => t.1 ≤ l.length ∧ eP 6 0 t.2.2 t.2.1 ((l.take t.1).flatten.flatMap aC) (K9 (l.take t.1))) (fun t => l.length - t.1) ((0, .hs 0 0 0 false, [.arr false 6 []])) ⟨aG _, .inr ⟨0, rfl, rfl, rfl⟩⟩ rfl (by simp [eN]) ?_
     rintro ⟨k, out, g⟩ j ⟨hk, ho⟩
     dsimp only at hk ho
     have hat : k < l.length → K9 (l.take k) + (l.getD k []).length ≤ K9 l := aHx
     refine zg ?_
     (refine zs0 ?_; repeat' first | exact trivial | refine zJ ?_ ?_ | refine zH fun hc => ?_)
     · refine eV (more := []) (pre := []) (news := (l.getD k []).flatMap aC) (m := (l.getD k []).length) ho rfl (by simp) bPp bOf bOh bPt rfl (by decide) (by simp -implicitDefEqProofs (disch := omega) only [go_sem, simprocAttr]) (by simp -implicitDefEqProofs (disch := omega) only [go_sem, simprocAttr]) ⟨by omega, by omega⟩ ?_
       intro out' g' ho' _
       refine zg ?_
       refine ⟨(k + 1, out', g'), ⟨by omega, ?_⟩, by simp; omega, rfl, by simp⟩
       dsimp only
       rw [xD (by omega), eU (d := []) (by omega), jP, fU]
       simpa using ho'
     · have h1 : k = l.length := by omega
       subst h1
       rw [iF] at ho
       exact aVf (aUo ho rfl)
end Go.Proofs.YtifefbhllfdmlaaGreatDoor
