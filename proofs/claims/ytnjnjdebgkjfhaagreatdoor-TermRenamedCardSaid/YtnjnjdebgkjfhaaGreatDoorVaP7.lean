/-
  What functions of the chapter return, as plain functions of what they are given; no condition beyond those that each theorem names.
-/
import Derived.Test.YtnjnjdebgkjfhaaGreatDoorTeP7
import Derived.Test.YtnjnjdebgkjfhaaGreatDoorTeP4
import Derived.Test.YtnjnjdebgkjfhaaGreatDoorVaP6
set_option maxRecDepth 100000
set_option linter.unusedSimpArgs false
set_option linter.unusedVariables false
set_option maxHeartbeats 4000000
namespace Go.Proofs.YtnjnjdebgkjfhaaGreatDoor
open Go Go.Vo
open Nat (reduceAdd reduceSub reduceMul reduceLeDiff reduceLT reduceEqDiff)
open Int (reduceNeg)

mutual
def vis : LTerm → Int → List (LTerm × Int)
 | .mk k n x s ks rs, d => (.mk k n x s ks rs, d) :: (visL ks (d + 1) ++ visL rs (d + 1))
def visL : List LTerm → Int → List (LTerm × Int)
 | [], _ => []
 | t :: l, d => vis t d ++ visL l d
end
theorem visL_append : ∀ {l m : List LTerm} {d : Int}, visL (l ++ m) d = visL l d ++ visL m d
 | [], m, d => rfl
 | t :: l, m, d => by rw [List.cons_append, visL, visL, visL_append, List.append_assoc]
theorem vis_eq (t : LTerm) (d : Int) : vis t d = (t, d) :: visL (t.kids ++ t.rest) (d + 1) := by cases t; rw [vis, visL_append]; rfl
theorem visL_at {l : List LTerm} {k : Nat} {d : Int} (h : k < l.length) : visL (l.drop k) d = vis (l.getD k default) d ++ visL (l.drop (k + 1)) d := by
 rw [List.drop_eq_getElem_cons h, visL]; simp [List.getD, h]
def visR {α : Type} (φ : LTerm × Int → α → α) (a : α) (l : List (LTerm × Int)) : α := l.foldl (fun a v => φ v a) a
theorem visR_append {α : Type} {φ : LTerm × Int → α → α} {a : α} {l m : List (LTerm × Int)} : visR φ a (l ++ m) = visR φ (visR φ a l) m := by simp [visR, List.foldl_append]
abbrev WalkK {α : Type} (enc : α → List AV) (b : α) : AV → List AObj → Prop := fun r h' => r = .tup [] ∧ ∃ g, h' = .box false (enc b) :: g
theorem ite_box {c : Bool} {a : AObj} {x y : List AObj} : ∃ g, (if c = true then a :: x else a :: y) = a :: g := by split <;> exact ⟨_, rfl⟩
structure Vis {α : Type} (F : FuncId) (enc : α → List AV) (φ : LTerm × Int → α → α) (P : α → List (LTerm × Int) → Prop) : Prop where
 ok : ∀ a v l, P a (v :: l) → OkT v.1 → (0 ≤ v.2 ∧ v.2 ≤ 1000 ∧ v.1.kids.length + v.1.rest.length ≤ 1000000) ∧ P (φ v a) l ∧ ACalls Tryz.prog G0 F [elT v.1, .i .i64 v.2, .ptr 0 0] [.box false (enc a)] (WalkK enc (φ v a))
 pe : ∀ a, persL (enc a) = true
theorem Vis.all {α : Type} {F : FuncId} {enc : α → List AV} {φ : LTerm × Int → α → α} {P : α → List (LTerm × Int) → Prop} (V : Vis F enc φ P) {m : List (LTerm × Int)} : ∀ {l : List (LTerm × Int)} {a : α}, P a (l ++ m) → (∀ v ∈ l, OkT v.1) → P (visR φ a l) m
 | [], a, h, _ => h
 | v :: l, a, h, ho => V.all (l := l) (V.ok a v _ h (ho v (by simp))).2.1 (fun x hx => ho x (by simp [hx]))
theorem vis_ok : ∀ (t : LTerm), OkT t → ∀ (d : Int), ∀ v ∈ vis t d, OkT v.1 :=
 term_ind fun t hk hr ht d v hv => by
   have L : ∀ (l : List LTerm), (∀ x ∈ l, OkT x ∧ ∀ (d : Int), ∀ v ∈ vis x d, OkT v.1) → ∀ v ∈ visL l (d + 1), OkT v.1 := by
     intro l
     induction l with
     | nil => intro _ v hv; simp [visL] at hv
     | cons x l ih =>
       intro h v hv
       rw [visL, List.mem_append] at hv
       rcases hv with hv | hv
       · exact (h x (by simp)).2 _ v hv
       · exact ih (fun y hy => h y (by simp [hy])) v hv
   rw [vis_eq, List.mem_cons] at hv
   rcases hv with rfl | hv
   · exact ht
   · refine L _ (fun x hx => ?_) v hv
     rcases List.mem_append.1 hx with hx | hx
     · exact ⟨ht.kid x hx, hk x hx (ht.kid x hx)⟩
     · exact ⟨ht.rst x hx, hr x hx (ht.rst x hx)⟩
theorem walk1 {α : Type} {F : FuncId} {enc : α → List AV} {φ : LTerm × Int → α → α} {P : α → List (LTerm × Int) → Prop} (V : Vis F enc φ P) (t : LTerm) (d : Int) (a : α) (l : List (LTerm × Int)) (ht : OkT t) (hP : P a (vis t d ++ l)) (ih : ∀ k ∈ t.kids ++ t.rest, ∀ (d : Int) (a : α) (l : List (LTerm × Int)), P a (vis k d ++ l) → ACalls Tryz.prog G0 68 [elT k, .i .i64 d, .fn F [] [.ptr 0 0]] [.box false (enc a)] (WalkK enc (visR φ a (vis k d)))): ACalls Tryz.prog G0 68 [elT t, .i .i64 d, .fn F [] [.ptr 0 0]] [.box false (enc a)] (WalkK enc (visR φ a (vis t d))) := by
 refine acalls_intro (rx := false) (th := fun _ => none) mixed Tryz.func68 rfl (by kernel_rfl) (by kernel_rfl) (ac := ?_) ?_ ?_
 rotate_left
 · simp only [strip, splitQ, stripOps, stripOp, hoist, List.filter_cons, List.filter_nil, List.nil_append, List.cons_append, isFree, anyPre, Region.binds, Bool.not_true, Bool.not_false, Bool.false_eq_true, if_true, if_false, Option.isNone_none, Option.isNone_some, Bool.true_and, Bool.false_and, List.map_nil, List.map_cons, List.isEmpty_nil, List.isEmpty_cons, List.append_nil]
   rfl
 · simp -implicitDefEqProofs (disch := omega) only [Tryz.f68, go_sem, List.replicate, ↓reduceIte, reduceAdd, reduceSub, reduceMul, reduceLeDiff, reduceLT, reduceEqDiff, reduceNeg, Nat.reduceBEq]
   rw [vis_eq, List.cons_append] at hP
   obtain ⟨⟨hd0, hd, hlen⟩, hP2, hc⟩ := V.ok a (t, d) _ hP ht
   dsimp only at hd0 hd hlen hP2 hc
   have hr : visR φ a (vis t d) = visR φ (φ (t, d) a) (visL (t.kids ++ t.rest) (d + 1)) := by rw [vis_eq]; rfl
   rw [hr]
   have hoL : ∀ x ∈ t.kids ++ t.rest, OkT x := fun x hx => by
     rcases List.mem_append.1 hx with hx | hx
     · exact ht.kid x hx
     · exact ht.rst x hx
   have c : CT 131 [.sl [avt t.kids, avt t.rest] 2] (avt (t.kids ++ t.rest)) := by
     have := ctr268 [t.kids, t.rest] (by simp) (by simp [sumT]; omega)
     simpa using this
   have hLl : (t.kids ++ t.rest).length ≤ 1000000 := by rw [List.length_append]; exact hlen
   generalize t.kids ++ t.rest = L at *
   (repeat' (first | refine gT ?_ ?_ | refine gF ?_ ?_ | refine gC ?_ ?_ | refine And.intro (by omega) ?_ | (intro hr; have hc := hr; (try simp only [zda, zdb, zdc, zdd] at hc); simp -implicitDefEqProofs (disch := omega) only [hr, go_sem, ↓reduceIte, reduceAdd, reduceSub, reduceMul, reduceLeDiff, reduceLT, reduceEqDiff, reduceNeg, Nat.reduceBEq]; (try clear hr))))
   refine c_box 0 g0 hc (V.pe _) (V.pe _) rfl rfl ?_ ?_
   · simp only [renL, ren, elT, termCells_eq, avt, renL_pers _ _ persTs, emb_0]
   · intro g2
     simp -implicitDefEqProofs (disch := omega) only [go_sem, ↓reduceIte, reduceAdd, reduceSub, reduceMul, reduceLeDiff, reduceLT, reduceEqDiff, reduceNeg, Nat.reduceBEq]
     (repeat' (first | refine gT ?_ ?_ | refine gF ?_ ?_ | refine gC ?_ ?_ | ((refine c_ctrE (c) ?_ ?_; (focus (simp -implicitDefEqProofs (disch := omega) only [avs, avb, avi, avo, sigCells, opCells, pairCells, elT, avt, termCells_eq, go_sem, ↓reduceIte, reduceAdd, reduceSub, reduceMul, reduceLeDiff, reduceLT, reduceEqDiff, reduceNeg, Nat.reduceBEq]; done))); simp -implicitDefEqProofs (disch := omega) only [go_sem, ↓reduceIte, reduceAdd, reduceSub, reduceMul, reduceLeDiff, reduceLT, reduceEqDiff, reduceNeg, Nat.reduceBEq]) | refine And.intro (by omega) ?_ | (intro hr; have hc := hr; (try simp only [zda, zdb, zdc, zdd] at hc); simp -implicitDefEqProofs (disch := omega) only [hr, go_sem, ↓reduceIte, reduceAdd, reduceSub, reduceMul, reduceLeDiff, reduceLT, reduceEqDiff, reduceNeg, Nat.reduceBEq]; (try clear hr))))
     obtain ⟨g4, hg⟩ := ite_box (c := ((List.flatMap termCells L).isEmpty && L.length == 0)) (a := .box false (enc (φ (t, d) a))) (x := .box false [.i .i64 t.kind, .i .i64 t.n, .s t.text, .s t.sort, .sl (t.kids.flatMap termCells) t.kids.length, .sl (t.rest.flatMap termCells) t.rest.length] :: (g2 ++ [.arr false 1 [.sl (t.kids.flatMap termCells) t.kids.length, .sl (t.rest.flatMap termCells) t.rest.length]])) (y := .box false [.i .i64 t.kind, .i .i64 t.n, .s t.text, .s t.sort, .sl (t.kids.flatMap termCells) t.kids.length, .sl (t.rest.flatMap termCells) t.rest.length] :: (g2 ++ [.arr true 1 [.sl (t.kids.flatMap termCells) t.kids.length, .sl (t.rest.flatMap termCells) t.rest.length]]))
     rw [hg]
     refine x_loopG (fun (s : Nat × α) => [.k, .k, .k, .k, .k, .k, .k, .j, .k, .k, .k, .k, .k, .k, .k, .k, .k, .k, .k, .v (.i .i64 (s.1 : Nat)), .j, .j, .j, .j, .j, .j, .j, .j, .j]) (fun s => [.box false (enc s.2)]) (fun s => s.1 ≤ L.length ∧ P s.2 (visL (L.drop s.1) (d + 1) ++ l) ∧ visR φ (φ (t, d) a) (visL L (d + 1)) = visR φ s.2 (visL (L.drop s.1) (d + 1))) (fun s => L.length - s.1) ((0, φ (t, d) a)) _ ⟨Nat.zero_le _, hP2, rfl⟩ rfl (by simp [Fits]) ?_
     rintro ⟨k, b⟩ g j ⟨hk, hPk, he⟩
     dsimp only at hk hPk he
     simp -implicitDefEqProofs (disch := omega) only [go_sem, ↓reduceIte, reduceAdd, reduceSub, reduceMul, reduceLeDiff, reduceLT, reduceEqDiff, reduceNeg, Nat.reduceBEq]
     (repeat' (first | refine gT ?_ ?_ | refine gF ?_ ?_ | refine gC ?_ ?_ | refine And.intro (by omega) ?_ | (intro hr; have hc := hr; (try simp only [zda, zdb, zdc, zdd] at hc); simp -implicitDefEqProofs (disch := omega) only [hr, go_sem, ↓reduceIte, reduceAdd, reduceSub, reduceMul, reduceLeDiff, reduceLT, reduceEqDiff, reduceNeg, Nat.reduceBEq]; (try clear hr))))
     · have hlt : k < L.length := by omega
       rw [visL_at hlt, List.append_assoc] at hPk
       rw [visL_at hlt, visR_append] at he
       have hm := mem_getD (d := default) hlt
       refine c_box 0 g0 (ih _ hm (d + 1) b _ hPk) (V.pe _) (V.pe _) rfl rfl ?_ ?_
       · simp only [renL, ren, elT, termCells_eq, avt, renL_pers _ _ persTs, emb_0]
       · intro g3
         simp -implicitDefEqProofs (disch := omega) only [go_sem, ↓reduceIte, reduceAdd, reduceSub, reduceMul, reduceLeDiff, reduceLT, reduceEqDiff, reduceNeg, Nat.reduceBEq]
         exact ⟨(k + 1, visR φ b (vis (L.getD k default) (d + 1))), _, ⟨by dsimp only; omega, V.all hPk (vis_ok _ (hoL _ hm) _), he⟩, by dsimp only; omega, rfl, by simp⟩
     · rw [List.drop_of_length_le (by omega)] at he
       rw [he]
       exact ⟨rfl, _, rfl⟩
theorem walk {α : Type} {F : FuncId} {enc : α → List AV} {φ : LTerm × Int → α → α} {P : α → List (LTerm × Int) → Prop} (V : Vis F enc φ P) : ∀ (t : LTerm), OkT t → ∀ (d : Int) (a : α) (l : List (LTerm × Int)), P a (vis t d ++ l) → ACalls Tryz.prog G0 68 [elT t, .i .i64 d, .fn F [] [.ptr 0 0]] [.box false (enc a)] (WalkK enc (visR φ a (vis t d))) :=
 term_ind fun t hk hr ht d a l hP => walk1 V t d a l ht hP fun k hm => by
   rcases List.mem_append.1 hm with hm | hm
   · exact hk k hm (ht.kid k hm)
   · exact hr k hm (ht.rst k hm)

theorem node_rest1 {t : LTerm} (h : nodeB t = true) : t.rest = [] ∨ ∃ r, t.rest = [r] ∧ r.kids = [] ∧ r.rest = [] := by
 have h1 := nodeB_rest t h
 have h2 := node_rest h
 rcases hr : t.rest with _ | ⟨x, _ | ⟨y, l⟩⟩
 · exact .inl rfl
 · rw [hr] at h2
   exact .inr ⟨x, rfl, (h2 x (by simp)).2⟩
 · rw [hr] at h1; simp at h1
theorem vis_leaf {r : LTerm} (h1 : r.kids = []) (h2 : r.rest = []) (d : Int) : vis r d = [(r, d)] := by rw [vis_eq, h1, h2]; rfl
theorem visL_rest {t : LTerm} (h : nodeB t = true) (d : Int) : visL t.rest d = t.rest.map fun r => (r, d) := by
 rcases node_rest1 h with e | ⟨r, e, h1, h2⟩
 · rw [e]; rfl
 · rw [e, visL, vis_leaf h1 h2]; rfl
theorem nodesT_eq (t : LTerm) : nodesT t = 1 + t.rest.length + nodesL t.kids := by cases t; rw [nodesT]; rfl
theorem highT_eq (t : LTerm) : highT t = 1 + max t.rest.length (highL t.kids) := by cases t; rw [highT]; rfl
theorem nodesL_len : ∀ (l : List LTerm), l.length ≤ nodesL l
 | [] => Nat.le_refl _
 | t :: l => by rw [nodesL, List.length_cons, nodesT_eq]; have := nodesL_len l; omega
theorem vis_len : ∀ (t : LTerm), wfT nodeB t = true → ∀ d : Int, (vis t d).length = nodesT t :=
 term_ind fun t hk _ hw d => by
   rw [wfT_eq] at hw
   have L : ∀ (l : List LTerm), (∀ x ∈ l, ∀ d : Int, (vis x d).length = nodesT x) → (visL l (d + 1)).length = nodesL l := by
     intro l
     induction l with
     | nil => intro _; rfl
     | cons x l ih => intro h; rw [visL, nodesL, List.length_append, h x (by simp), ih (fun y hy => h y (by simp [hy]))]
   rw [vis_eq, visL_append, nodesT_eq, List.length_cons, List.length_append, L _ (fun x hx => hk x hx (hw.2 x hx)), visL_rest hw.1, List.length_map]
   omega
structure VisB (t : LTerm) (d : Int) (v : LTerm × Int) : Prop where
 lo : d ≤ v.2
 hi : v.2 + 1 ≤ d + highT t
 len : v.1.kids.length + v.1.rest.length ≤ nodesT t
theorem vis_bnd : ∀ (t : LTerm), wfT nodeB t = true → ∀ d : Int, ∀ v ∈ vis t d, VisB t d v :=
 term_ind fun t hk _ hw d v hv => by
   rw [wfT_eq] at hw
   rw [vis_eq, visL_append, List.mem_cons, List.mem_append, visL_rest hw.1, List.mem_map] at hv
   have hn := nodesT_eq t
   have hh := highT_eq t
   have hl := nodesL_len t.kids
   rcases hv with rfl | hv | ⟨r, hr, rfl⟩
   · exact ⟨Int.le_refl _, by dsimp only; omega, by dsimp only; omega⟩
   · have L : ∀ (l : List LTerm), (∀ x ∈ l, ∀ d : Int, ∀ v ∈ vis x d, VisB x d v) → v ∈ visL l (d + 1) → d + 1 ≤ v.2 ∧ v.2 ≤ d + highL l ∧ v.1.kids.length + v.1.rest.length ≤ nodesL l := by
       intro l
       induction l with
       | nil => intro _ h; simp [visL] at h
       | cons x l ih =>
         intro h hv
         rw [highL, nodesL]
         rw [visL, List.mem_append] at hv
         rcases hv with hv | hv
         · have b := h x (by simp) _ v hv
           have b1 := b.lo
           have b2 := b.hi
           have b3 := b.len
           exact ⟨b1, by omega, by omega⟩
         · have b := ih (fun y hy => h y (by simp [hy])) hv
           omega
     have b := L _ (fun x hx => hk x hx (hw.2 x hx)) hv
     exact ⟨by omega, by omega, by omega⟩
   · have e : t.rest.length = 1 ∧ r.kids = [] ∧ r.rest = [] := by
       rcases node_rest1 hw.1 with e | ⟨r', e, h1, h2⟩
       · rw [e] at hr; cases hr
       · rw [e] at hr; obtain rfl := List.mem_singleton.1 hr; rw [e]; exact ⟨rfl, h1, h2⟩
     refine ⟨by dsimp only; omega, by dsimp only; omega, ?_⟩
     dsimp only
     rw [e.2.1, e.2.2]; simp
def deep (v : LTerm × Int) (a : Int) : Int := if v.2 > a then v.2 else a
theorem vis_deep : ∀ (t : LTerm), wfT nodeB t = true → ∀ d a : Int, visR deep a (vis t d) = max a (d + highT t - 1) :=
 term_ind fun t hk _ hw d a => by
   rw [wfT_eq] at hw
   have L : ∀ (l : List LTerm), (∀ x ∈ l, ∀ d a : Int, visR deep a (vis x d) = max a (d + highT x - 1)) → ∀ a : Int, d ≤ a → visR deep a (visL l (d + 1)) = max a (d + highL l) := by
     intro l
     induction l with
     | nil => intro _ a ha; simp only [visL, visR, List.foldl_nil, highL]; omega
     | cons x l ih =>
       intro h a ha
       rw [visL, visR_append, h x (by simp), ih (fun y hy => h y (by simp [hy])) _ (by omega), highL]
       omega
   have hh := highT_eq t
   have e0 : visR deep a (vis t d) = visR deep (visR deep (max a d) (visL t.kids (d + 1))) (visL t.rest (d + 1)) := by
     rw [vis_eq, visL_append, ← visR_append]
     show visR deep (deep (t, d) a) _ = _
     congr 1
     simp only [deep]; omega
   rw [e0, L _ (fun x hx => hk x hx (hw.2 x hx)) _ (by omega), visL_rest hw.1]
   rcases node_rest1 hw.1 with e | ⟨r, e, h1, h2⟩
   · rw [e] at hh ⊢
     simp only [List.map_nil, visR, List.foldl_nil, List.length_nil] at hh ⊢
     omega
   · rw [e] at hh ⊢
     simp only [List.map_cons, List.map_nil, visR, List.foldl_cons, List.foldl_nil, List.length_cons, List.length_nil, deep] at hh ⊢
     omega
def VisP (a : Int) (l : List (LTerm × Int)) : Prop := (0 ≤ a ∧ a + l.length ≤ 1000000) ∧ ∀ v ∈ l, 0 ≤ v.2 ∧ v.2 ≤ 1000 ∧ v.1.kids.length + v.1.rest.length ≤ 1000000
def VisQ (a : Int) (l : List (LTerm × Int)) : Prop := (0 ≤ a ∧ a ≤ 1000) ∧ ∀ v ∈ l, 0 ≤ v.2 ∧ v.2 ≤ 1000 ∧ v.1.kids.length + v.1.rest.length ≤ 1000000
theorem VisP.q {a : Int} {l : List (LTerm × Int)} (h : VisP a l) (ha : a ≤ 1000) : VisQ a l := ⟨⟨h.1.1, ha⟩, h.2⟩
theorem visP_of {t : LTerm} (h : validT nodeB t = true) : VisP 0 (vis t 1 ++ []) := by
 rw [List.append_nil]
 simp only [validT, Bool.and_eq_true, decide_eq_true_eq] at h
 refine ⟨⟨Int.le_refl _, by rw [vis_len t h.1.1]; omega⟩, fun v hv => ?_⟩
 have b := vis_bnd t h.1.1 1 v hv
 have b1 := b.lo
 have b2 := b.hi
 have b3 := b.len
 exact ⟨by omega, by omega, by omega⟩
abbrev encI (a : Int) : List AV := [.i .i64 a]
theorem size1 (t : LTerm) (d a : Int) (ht : OkT t) (h0 : 0 ≤ a) (h1 : a ≤ 1000000): ACalls Tryz.prog G0 69 [elT t, .i .i64 d, .ptr 0 0] [.box false [.i .i64 a]] (WalkK encI (a + 1)) := by
 refine acalls_intro (rx := false) (th := fun _ => none) mixed Tryz.func69 rfl (by kernel_rfl) (by kernel_rfl) (ac := ?_) ?_ ?_
 rotate_left
 · simp only [strip, splitQ, stripOps, stripOp, hoist, List.filter_cons, List.filter_nil, List.nil_append, List.cons_append, isFree, anyPre, Region.binds, Bool.not_true, Bool.not_false, Bool.false_eq_true, if_true, if_false, Option.isNone_none, Option.isNone_some, Bool.true_and, Bool.false_and, List.map_nil, List.map_cons, List.isEmpty_nil, List.isEmpty_cons, List.append_nil]
   rfl
 · simp -implicitDefEqProofs (disch := omega) only [Tryz.f69, go_sem, List.replicate, ↓reduceIte, reduceAdd, reduceSub, reduceMul, reduceLeDiff, reduceLT, reduceEqDiff, reduceNeg, Nat.reduceBEq]
   (repeat' (first | refine gT ?_ ?_ | refine gF ?_ ?_ | refine gC ?_ ?_ | refine And.intro (by omega) ?_ | (intro hr; have hc := hr; (try simp only [zda, zdb, zdc, zdd] at hc); simp -implicitDefEqProofs (disch := omega) only [hr, go_sem, ↓reduceIte, reduceAdd, reduceSub, reduceMul, reduceLeDiff, reduceLT, reduceEqDiff, reduceNeg, Nat.reduceBEq]; (try clear hr))))
   exact ⟨rfl, _, rfl⟩
theorem deep1 (t : LTerm) (d a : Int) (ht : OkT t): ACalls Tryz.prog G0 70 [elT t, .i .i64 d, .ptr 0 0] [.box false [.i .i64 a]] (WalkK encI (deep (t, d) a)) := by
 refine acalls_intro (rx := false) (th := fun _ => none) mixed Tryz.func70 rfl (by kernel_rfl) (by kernel_rfl) (ac := ?_) ?_ ?_
 rotate_left
 · simp only [strip, splitQ, stripOps, stripOp, hoist, List.filter_cons, List.filter_nil, List.nil_append, List.cons_append, isFree, anyPre, Region.binds, Bool.not_true, Bool.not_false, Bool.false_eq_true, if_true, if_false, Option.isNone_none, Option.isNone_some, Bool.true_and, Bool.false_and, List.map_nil, List.map_cons, List.isEmpty_nil, List.isEmpty_cons, List.append_nil]
   rfl
 · simp -implicitDefEqProofs (disch := omega) only [Tryz.f70, go_sem, List.replicate, ↓reduceIte, reduceAdd, reduceSub, reduceMul, reduceLeDiff, reduceLT, reduceEqDiff, reduceNeg, Nat.reduceBEq]
   (repeat' (first | refine gT ?_ ?_ | refine gF ?_ ?_ | refine gC ?_ ?_ | refine And.intro (by omega) ?_ | (intro hr; have hc := hr; (try simp only [zda, zdb, zdc, zdd] at hc); simp -implicitDefEqProofs (disch := omega) only [hr, go_sem, ↓reduceIte, reduceAdd, reduceSub, reduceMul, reduceLeDiff, reduceLT, reduceEqDiff, reduceNeg, Nat.reduceBEq]; (try clear hr))))
   exact ⟨rfl, _, rfl⟩
theorem visSize : Vis 69 encI (fun _ a => a + 1) VisP := by
 refine ⟨fun a v l hP ho => ⟨hP.2 v (by simp), ⟨⟨?_, ?_⟩, fun x hx => hP.2 x (by simp [hx])⟩, size1 v.1 v.2 a ho ?_ ?_⟩, fun a => rfl⟩
 all_goals
   have := hP.1
   rw [List.length_cons] at this
   omega
theorem visDeep : Vis 70 encI deep VisQ := by
 refine ⟨fun a v l hP ho => ⟨hP.2 v (by simp), ⟨⟨?_, ?_⟩, fun x hx => hP.2 x (by simp [hx])⟩, deep1 v.1 v.2 a ho⟩, fun a => rfl⟩
 all_goals
   have := hP.1
   have h2 := hP.2 v (by simp)
   simp only [deep]
   split <;> omega

theorem visR_size {l : List (LTerm × Int)} : ∀ {a : Int}, visR (fun _ a => a + 1) a l = a + l.length := by
 induction l with
 | nil => intro a; simp [visR]
 | cons x l ih => intro a; show visR _ (a + 1) l = _; rw [ih, List.length_cons]; omega
def numAV (p : Int × Int) : AV := .tup [.i .i64 p.1, .i .i64 p.2]
def sizeV (t : LTerm) : Int × Int := if validT nodeB t then (nodesT t, 0) else (0, 2)
def depthV (t : LTerm) : Int × Int := if validT nodeB t then (highT t, 0) else (0, 2)
theorem ctr338 (t : LTerm) (ht : OkT t): CT 30 [elT t] (numAV (sizeV t)) := by
 refine sem_introB mixed Tryz.func30 g0 ?_
 · skip
   have c := ctr242 t ht
   cases hv : validT nodeB t with
   | false =>
     rw [hv] at c
     (repeat' (first | refine gT ?_ ?_ | refine gF ?_ ?_ | refine gC ?_ ?_ | ((refine c_ctrE (c) ?_ ?_; (focus (simp -implicitDefEqProofs (disch := omega) only [avs, avb, avi, avo, sigCells, opCells, pairCells, elT, avt, termCells_eq, go_sem, ↓reduceIte, reduceAdd, reduceSub, reduceMul, reduceLeDiff, reduceLT, reduceEqDiff, reduceNeg, Nat.reduceBEq]; done))); simp -implicitDefEqProofs (disch := omega) only [go_sem, ↓reduceIte, reduceAdd, reduceSub, reduceMul, reduceLeDiff, reduceLT, reduceEqDiff, reduceNeg, Nat.reduceBEq]) | refine And.intro (by omega) ?_ | (intro hr; have hc := hr; (try simp only [zda, zdb, zdc, zdd] at hc); simp -implicitDefEqProofs (disch := omega) only [hr, go_sem, ↓reduceIte, reduceAdd, reduceSub, reduceMul, reduceLeDiff, reduceLT, reduceEqDiff, reduceNeg, Nat.reduceBEq]; (try clear hr))))
     refine fin_eq ?_ rfl
     rw [sizeV, hv]; rfl
   | true =>
     rw [hv] at c
     (repeat' (first | refine gT ?_ ?_ | refine gF ?_ ?_ | refine gC ?_ ?_ | ((refine c_ctrE (c) ?_ ?_; (focus (simp -implicitDefEqProofs (disch := omega) only [avs, avb, avi, avo, sigCells, opCells, pairCells, elT, avt, termCells_eq, go_sem, ↓reduceIte, reduceAdd, reduceSub, reduceMul, reduceLeDiff, reduceLT, reduceEqDiff, reduceNeg, Nat.reduceBEq]; done))); simp -implicitDefEqProofs (disch := omega) only [go_sem, ↓reduceIte, reduceAdd, reduceSub, reduceMul, reduceLeDiff, reduceLT, reduceEqDiff, reduceNeg, Nat.reduceBEq]) | refine And.intro (by omega) ?_ | (intro hr; have hc := hr; (try simp only [zda, zdb, zdc, zdd] at hc); simp -implicitDefEqProofs (disch := omega) only [hr, go_sem, ↓reduceIte, reduceAdd, reduceSub, reduceMul, reduceLeDiff, reduceLT, reduceEqDiff, reduceNeg, Nat.reduceBEq]; (try clear hr))))
     refine c_box 1 g0 (walk visSize t ht 1 0 [] (visP_of hv)) rfl rfl rfl rfl ?_ ?_
     · simp only [renL, ren, elT, termCells_eq, avt, renL_pers _ _ persTs, emb_0]
     · intro g2
       simp -implicitDefEqProofs (disch := omega) only [go_sem, ↓reduceIte, reduceAdd, reduceSub, reduceMul, reduceLeDiff, reduceLT, reduceEqDiff, reduceNeg, Nat.reduceBEq]
       refine fin_eq ?_ rfl
       rw [visR_size, vis_len t (valid_wf hv), sizeV, hv, if_pos rfl, Int.zero_add]
       rfl
theorem ctr340 (t : LTerm) (ht : OkT t): CT 32 [elT t] (numAV (depthV t)) := by
 refine sem_introB mixed Tryz.func32 g0 ?_
 · skip
   have c := ctr242 t ht
   cases hv : validT nodeB t with
   | false =>
     rw [hv] at c
     (repeat' (first | refine gT ?_ ?_ | refine gF ?_ ?_ | refine gC ?_ ?_ | ((refine c_ctrE (c) ?_ ?_; (focus (simp -implicitDefEqProofs (disch := omega) only [avs, avb, avi, avo, sigCells, opCells, pairCells, elT, avt, termCells_eq, go_sem, ↓reduceIte, reduceAdd, reduceSub, reduceMul, reduceLeDiff, reduceLT, reduceEqDiff, reduceNeg, Nat.reduceBEq]; done))); simp -implicitDefEqProofs (disch := omega) only [go_sem, ↓reduceIte, reduceAdd, reduceSub, reduceMul, reduceLeDiff, reduceLT, reduceEqDiff, reduceNeg, Nat.reduceBEq]) | refine And.intro (by omega) ?_ | (intro hr; have hc := hr; (try simp only [zda, zdb, zdc, zdd] at hc); simp -implicitDefEqProofs (disch := omega) only [hr, go_sem, ↓reduceIte, reduceAdd, reduceSub, reduceMul, reduceLeDiff, reduceLT, reduceEqDiff, reduceNeg, Nat.reduceBEq]; (try clear hr))))
     refine fin_eq ?_ rfl
     rw [depthV, hv]; rfl
   | true =>
     rw [hv] at c
     (repeat' (first | refine gT ?_ ?_ | refine gF ?_ ?_ | refine gC ?_ ?_ | ((refine c_ctrE (c) ?_ ?_; (focus (simp -implicitDefEqProofs (disch := omega) only [avs, avb, avi, avo, sigCells, opCells, pairCells, elT, avt, termCells_eq, go_sem, ↓reduceIte, reduceAdd, reduceSub, reduceMul, reduceLeDiff, reduceLT, reduceEqDiff, reduceNeg, Nat.reduceBEq]; done))); simp -implicitDefEqProofs (disch := omega) only [go_sem, ↓reduceIte, reduceAdd, reduceSub, reduceMul, reduceLeDiff, reduceLT, reduceEqDiff, reduceNeg, Nat.reduceBEq]) | refine And.intro (by omega) ?_ | (intro hr; have hc := hr; (try simp only [zda, zdb, zdc, zdd] at hc); simp -implicitDefEqProofs (disch := omega) only [hr, go_sem, ↓reduceIte, reduceAdd, reduceSub, reduceMul, reduceLeDiff, reduceLT, reduceEqDiff, reduceNeg, Nat.reduceBEq]; (try clear hr))))
     refine c_box 1 g0 (walk visDeep t ht 1 0 [] ((visP_of hv).q (by decide))) rfl rfl rfl rfl ?_ ?_
     · simp only [renL, ren, elT, termCells_eq, avt, renL_pers _ _ persTs, emb_0]
     · intro g2
       simp -implicitDefEqProofs (disch := omega) only [go_sem, ↓reduceIte, reduceAdd, reduceSub, reduceMul, reduceLeDiff, reduceLT, reduceEqDiff, reduceNeg, Nat.reduceBEq]
       refine fin_eq ?_ rfl
       rw [vis_deep t (valid_wf hv), depthV, hv, if_pos rfl]
       have := highT_eq t
       rw [show max (0 : Int) (1 + highT t - 1) = highT t by omega]
       rfl
@[simp] theorem nodesL_nil : nodesL [] = 0 := rfl
@[simp] theorem highL_nil : highL [] = 0 := rfl
theorem nodesL_succ {l : List LTerm} {k : Nat} (h : k < l.length) : nodesL (l.take (k + 1)) = nodesL (l.take k) + nodesT (l.getD k default) := by
 have : ∀ (a b : List LTerm), nodesL (a ++ b) = nodesL a + nodesL b := by
   intro a b
   induction a with
   | nil => simp [nodesL]
   | cons x a ih => rw [List.cons_append, nodesL, nodesL, ih]; omega
 rw [take_getD (d := default) h, this, nodesL, nodesL]; omega
theorem nodesL_take : ∀ {l : List LTerm} {k : Nat}, nodesL (l.take k) ≤ nodesL l
 | [], k => by simp
 | x :: l, 0 => by simp [nodesL]
 | x :: l, k + 1 => by rw [List.take_succ_cons, nodesL, nodesL]; have := nodesL_take (l := l) (k := k); omega
theorem highL_succ {l : List LTerm} {k : Nat} (h : k < l.length) : highL (l.take (k + 1)) = max (highL (l.take k)) (highT (l.getD k default)) := by
 have : ∀ (a b : List LTerm), highL (a ++ b) = max (highL a) (highL b) := by
   intro a b
   induction a with
   | nil => simp [highL]
   | cons x a ih => rw [List.cons_append, highL, highL, ih]; omega
 rw [take_getD (d := default) h, this, highL, highL]; omega
theorem highL_take : ∀ {l : List LTerm} {k : Nat}, highL (l.take k) ≤ highL l
 | [], k => by simp
 | x :: l, 0 => by simp [highL]
 | x :: l, k + 1 => by rw [List.take_succ_cons, highL, highL]; have := highL_take (l := l) (k := k); omega
theorem nodesT_mem {l : List LTerm} {k : LTerm} (h : k ∈ l) : nodesT k ≤ nodesL l ∧ highT k ≤ highL l := by
 induction l with
 | nil => cases h
 | cons x l ih =>
   rw [nodesL, highL]
   rcases List.mem_cons.1 h with rfl | h
   · omega
   · have := ih h; omega
theorem nodes1 (t : LTerm) (ht : OkT t) (hn : nodesT t ≤ 1000000) (ih : ∀ k ∈ t.kids, nodesT k ≤ 1000000 → CT 46 [elT k] (.i .i64 (nodesT k))): CT 46 [elT t] (.i .i64 (nodesT t)) := by
 refine sem_introB mixed Tryz.func46 g0 ?_
 · skip
   have he := nodesT_eq t
   have hl := nodesL_len t.kids
   simp -implicitDefEqProofs (disch := omega) only [go_sem, ↓reduceIte, reduceAdd, reduceSub, reduceMul, reduceLeDiff, reduceLT, reduceEqDiff, reduceNeg, Nat.reduceBEq]
   (repeat' (first | refine gT ?_ ?_ | refine gF ?_ ?_ | refine gC ?_ ?_ | refine And.intro (by omega) ?_ | (intro hr; have hc := hr; (try simp only [zda, zdb, zdc, zdd] at hc); simp -implicitDefEqProofs (disch := omega) only [hr, go_sem, ↓reduceIte, reduceAdd, reduceSub, reduceMul, reduceLeDiff, reduceLT, reduceEqDiff, reduceNeg, Nat.reduceBEq]; (try clear hr))))
   refine x_loopG (fun (k : Nat) => [.k, .k, .k, .v (.i .i64 ((1 + t.rest.length + nodesL (t.kids.take k) : Nat) : Int)), .k, .j, .k, .k, .k, .k, .k, .k, .k, .v (.i .i64 (k : Nat)), .j, .j, .j, .j, .j, .j, .j, .j, .k]) (fun k => [.box false [.i .i64 (t).kind, .i .i64 (t).n, .s (t).text, .s (t).sort, .sl ((t).kids.flatMap termCells) (t).kids.length, .sl ((t).rest.flatMap termCells) (t).rest.length]]) (fun k => k ≤ t.kids.length) (fun k => t.kids.length - k) (0) _ (Nat.zero_le _) rfl (by simp [Fits]) ?_
   rintro k g j hk
   simp -implicitDefEqProofs (disch := omega) only [go_sem, ↓reduceIte, reduceAdd, reduceSub, reduceMul, reduceLeDiff, reduceLT, reduceEqDiff, reduceNeg, Nat.reduceBEq]
   (repeat' (first | refine gT ?_ ?_ | refine gF ?_ ?_ | refine gC ?_ ?_ | refine And.intro (by omega) ?_ | (intro hr; have hc := hr; (try simp only [zda, zdb, zdc, zdd] at hc); simp -implicitDefEqProofs (disch := omega) only [hr, go_sem, ↓reduceIte, reduceAdd, reduceSub, reduceMul, reduceLeDiff, reduceLT, reduceEqDiff, reduceNeg, Nat.reduceBEq]; (try clear hr))))
   · have hlt : k < t.kids.length := by omega
     have hs := nodesL_succ hlt
     have hb := nodesL_take (l := t.kids) (k := k + 1)
     have c := ih _ (mem_getD (d := default) hlt) (by have := (nodesT_mem (mem_getD (d := default) hlt)).1; omega)
     (repeat' (first | refine gT ?_ ?_ | refine gF ?_ ?_ | refine gC ?_ ?_ | ((refine c_ctrE (c) ?_ ?_; (focus (simp -implicitDefEqProofs (disch := omega) only [avs, avb, avi, avo, sigCells, opCells, pairCells, elT, avt, termCells_eq, go_sem, ↓reduceIte, reduceAdd, reduceSub, reduceMul, reduceLeDiff, reduceLT, reduceEqDiff, reduceNeg, Nat.reduceBEq]; done))); simp -implicitDefEqProofs (disch := omega) only [go_sem, ↓reduceIte, reduceAdd, reduceSub, reduceMul, reduceLeDiff, reduceLT, reduceEqDiff, reduceNeg, Nat.reduceBEq]) | refine And.intro (by omega) ?_ | (intro hr; have hc := hr; (try simp only [zda, zdb, zdc, zdd] at hc); simp -implicitDefEqProofs (disch := omega) only [hr, go_sem, ↓reduceIte, reduceAdd, reduceSub, reduceMul, reduceLeDiff, reduceLT, reduceEqDiff, reduceNeg, Nat.reduceBEq]; (try clear hr))))
     exact ⟨k + 1, _, by omega, by omega, rfl, by rw [hs]; congr 1; omega, by simp⟩
   · refine fin_eq ?_ rfl
     rw [he]
     try (congr 1; omega)
theorem ctr354 : ∀ (t : LTerm), OkT t → nodesT t ≤ 1000000 → CT 46 [elT t] (.i .i64 (nodesT t)) :=
 term_ind fun t hk _ ht hn => nodes1 t ht hn fun k hm => hk k hm (ht.kid k hm)
theorem high1 (t : LTerm) (ht : OkT t) (hn : highT t ≤ 1000000) (ih : ∀ k ∈ t.kids, highT k ≤ 1000000 → CT 47 [elT k] (.i .i64 (highT k))): CT 47 [elT t] (.i .i64 (highT t)) := by
 refine sem_introB mixed Tryz.func47 g0 ?_
 · skip
   have he := highT_eq t
   have hl := ht.kids
   (repeat' (first | refine gT ?_ ?_ | refine gF ?_ ?_ | refine gC ?_ ?_ | refine And.intro (by omega) ?_ | (intro hr; have hc := hr; (try simp only [zda, zdb, zdc, zdd] at hc); simp -implicitDefEqProofs (disch := omega) only [hr, go_sem, ↓reduceIte, reduceAdd, reduceSub, reduceMul, reduceLeDiff, reduceLT, reduceEqDiff, reduceNeg, Nat.reduceBEq]; (try clear hr))))
   refine x_loopG (fun (k : Nat) => [.k, .k, .k, .v (.i .i64 ((max t.rest.length (highL (t.kids.take k)) : Nat) : Int)), .k, .j, .k, .k, .k, .k, .k, .k, .v (.i .i64 (k : Nat)), .j, .j, .j, .j, .j, .j, .j, .j, .k, .k]) (fun k => [.box false [.i .i64 (t).kind, .i .i64 (t).n, .s (t).text, .s (t).sort, .sl ((t).kids.flatMap termCells) (t).kids.length, .sl ((t).rest.flatMap termCells) (t).rest.length]]) (fun k => k ≤ t.kids.length) (fun k => t.kids.length - k) (0) _ (Nat.zero_le _) rfl (by simp [Fits]) ?_
   rintro k g j hk
   simp -implicitDefEqProofs (disch := omega) only [go_sem, ↓reduceIte, reduceAdd, reduceSub, reduceMul, reduceLeDiff, reduceLT, reduceEqDiff, reduceNeg, Nat.reduceBEq]
   (repeat' (first | refine gT ?_ ?_ | refine gF ?_ ?_ | refine gC ?_ ?_ | refine And.intro (by omega) ?_ | (intro hr; have hc := hr; (try simp only [zda, zdb, zdc, zdd] at hc); simp -implicitDefEqProofs (disch := omega) only [hr, go_sem, ↓reduceIte, reduceAdd, reduceSub, reduceMul, reduceLeDiff, reduceLT, reduceEqDiff, reduceNeg, Nat.reduceBEq]; (try clear hr))))
   · have hlt : k < t.kids.length := by omega
     have hs := highL_succ hlt
     have hb := highL_take (l := t.kids) (k := k + 1)
     have c := ih _ (mem_getD (d := default) hlt) (by have := (nodesT_mem (mem_getD (d := default) hlt)).2; omega)
     (repeat' (first | refine gT ?_ ?_ | refine gF ?_ ?_ | refine gC ?_ ?_ | ((refine c_ctrE (c) ?_ ?_; (focus (simp -implicitDefEqProofs (disch := omega) only [avs, avb, avi, avo, sigCells, opCells, pairCells, elT, avt, termCells_eq, go_sem, ↓reduceIte, reduceAdd, reduceSub, reduceMul, reduceLeDiff, reduceLT, reduceEqDiff, reduceNeg, Nat.reduceBEq]; done))); simp -implicitDefEqProofs (disch := omega) only [go_sem, ↓reduceIte, reduceAdd, reduceSub, reduceMul, reduceLeDiff, reduceLT, reduceEqDiff, reduceNeg, Nat.reduceBEq]) | refine And.intro (by omega) ?_ | (intro hr; have hc := hr; (try simp only [zda, zdb, zdc, zdd] at hc); simp -implicitDefEqProofs (disch := omega) only [hr, go_sem, ↓reduceIte, reduceAdd, reduceSub, reduceMul, reduceLeDiff, reduceLT, reduceEqDiff, reduceNeg, Nat.reduceBEq]; (try clear hr))))
     exact ⟨k + 1, _, by omega, by omega, rfl, by rw [hs]; congr 1; omega, by simp⟩
   · refine fin_eq ?_ rfl
     rw [he]
     try (congr 1; omega)
theorem ctr355 : ∀ (t : LTerm), OkT t → highT t ≤ 1000000 → CT 47 [elT t] (.i .i64 (highT t)) :=
 term_ind fun t hk _ ht hn => high1 t ht hn fun k hm => hk k hm (ht.kid k hm)

def stepOk (t : LTerm) (i : Int) : Bool := decide (0 ≤ i) && decide (i < t.kids.length)
def kidAt (t : LTerm) (i : Int) : LTerm := t.kids.getD i.toNat default
def stopT : LTerm → List Int → LTerm
 | t, [] => t
 | t, i :: p => if stepOk t i then stopT (kidAt t i) p else t
def atOk : LTerm → List Int → Bool
 | _, [] => true
 | t, i :: p => stepOk t i && atOk (kidAt t i) p
theorem drop_at {p : List Int} {k : Nat} (h : k < p.length) : p.drop k = p.getD k 0 :: p.drop (k + 1) := by
 rw [List.drop_eq_getElem_cons h]; simp [List.getD, h]
def PathOk (p : List Int) : Prop := p.length ≤ 140737488355328 ∧ ∀ i ∈ p, -9223372036854775808 ≤ i ∧ i ≤ 9223372036854775807
theorem PathOk.at {p : List Int} (h : PathOk p) {k : Nat} (hk : k < p.length) : -9223372036854775808 ≤ p.getD k 0 ∧ p.getD k 0 ≤ 9223372036854775807 := h.2 _ (mem_getD hk)
theorem OkT.kidAt {t : LTerm} (h : OkT t) {i : Int} (hi : stepOk t i = true) : OkT (kidAt t i) := by
 simp only [stepOk, Bool.and_eq_true, decide_eq_true_eq] at hi
 exact h.kid _ (mem_getD (by omega))
def resB (t : LTerm) (b : Bool) : AV := .tup [elT t, .b b]
theorem fin_tb {H : List AObj} {t : LTerm} {v4 v5 : AV} {c : Bool} (r4 : Rd6 H v4 t.kids) (r5 : Rd6 H v5 t.rest) : Fin H (.tup [.agg [.i .i64 t.kind, .i .i64 t.n, .s t.text, .s t.sort, v4, v5], .b c]) (resB t c) := by
 have e4 := rd6_fin r4
 have e5 := rd6_fin r5
 have hn : finIds (.tup [.agg [.i .i64 t.kind, .i .i64 t.n, .s t.text, .s t.sort, v4, v5], .b c]) (resB t c) = [] := by
   simp only [resB, elT, finIds, finIdsL, termCells_eq, e4.2, e5.2, List.append_nil]
 refine .inr ⟨?_, ?_, ?_⟩
 · rw [resB, elT, termCells_eq]; exact ⟨⟨rfl, rfl, rfl, rfl, e4.1, e5.1, trivial⟩, rfl, trivial⟩
 · rw [hn]; exact List.nodup_nil
 · rw [hn]; simp
theorem fin_tbP {H : List AObj} {t u : LTerm} {b c : Bool} (h : t = u) (hb : b = c) : Fin H (.tup [.agg [.i .i64 u.kind, .i .i64 u.n, .s u.text, .s u.sort, .sl (u.kids.flatMap termCells) u.kids.length, .sl (u.rest.flatMap termCells) u.rest.length], .b c]) (resB t b) := by
 subst h hb
 exact fin_tb rd6_sl rd6_sl
theorem ctr367 (t : LTerm) (p : List Int) (ht : OkT t) (hp : PathOk p): CT 75 [elT t, avi p] (resB (stopT t p) (atOk t p)) := by
 refine sem_introA mixed Tryz.func75 g0 ?_
 · generalize hR : ((resB (stopT t p) (atOk t p)) : AV) = R
   simp -implicitDefEqProofs (disch := omega) only [Tryz.f75, go_sem, List.replicate, ↓reduceIte, reduceAdd, reduceSub, reduceMul, reduceLeDiff, reduceLT, reduceEqDiff, reduceNeg, Nat.reduceBEq, avi]
   (repeat' (first | refine gT ?_ ?_ | refine gF ?_ ?_ | refine gC ?_ ?_ | refine And.intro (by omega) ?_ | (intro hr; have hc := hr; (try simp only [zda, zdb, zdc, zdd] at hc); simp -implicitDefEqProofs (disch := omega) only [hr, go_sem, ↓reduceIte, reduceAdd, reduceSub, reduceMul, reduceLeDiff, reduceLT, reduceEqDiff, reduceNeg, Nat.reduceBEq]; (try clear hr))))
   refine x_loopJ (fun (s : Nat × LTerm) => [.k, .k, .k, .k, .k, .j, .k, .j, .k, .k, .v (.i .i64 (s.1 : Nat)), .j, .j, .j, .j, .j, .j, .j, .j, .j, .j, .j, .j, .j, .j, .j, .j, .j, .j, .j, .k]) (fun s => [.box false [.i .i64 (s.2).kind, .i .i64 (s.2).n, .s (s.2).text, .s (s.2).sort, .sl ((s.2).kids.flatMap termCells) (s.2).kids.length, .sl ((s.2).rest.flatMap termCells) (s.2).rest.length], .box false [.i .i64 0, .i .i64 0, .s [], .s [], .e0, .e0]]) (fun s => (s.1 ≤ p.length ∧ OkT s.2) ∧ stopT t p = stopT s.2 (p.drop s.1) ∧ atOk t p = atOk s.2 (p.drop s.1)) (fun s => p.length - s.1) ((0, t)) ⟨⟨Nat.zero_le _, ht⟩, rfl, rfl⟩ rfl (by simp [Fits]) ?_
   rintro ⟨k, u⟩ j ⟨⟨hk, hu⟩, h1, h2⟩
   dsimp only at hk hu h1 h2
   have hq := hp.1
   have hb := fun h => hp.at (k := k) h
   have hl := hu.kids
   simp -implicitDefEqProofs (disch := omega) only [go_sem, ↓reduceIte, reduceAdd, reduceSub, reduceMul, reduceLeDiff, reduceLT, reduceEqDiff, reduceNeg, Nat.reduceBEq]
   (repeat' (first | refine gT ?_ ?_ | refine gF ?_ ?_ | refine gC ?_ ?_ | refine And.intro (by omega) ?_ | (intro hr; have hc := hr; (try simp only [zda, zdb, zdc, zdd] at hc); simp -implicitDefEqProofs (disch := omega) only [hr, go_sem, ↓reduceIte, reduceAdd, reduceSub, reduceMul, reduceLeDiff, reduceLT, reduceEqDiff, reduceNeg, Nat.reduceBEq]; (try clear hr))))
   · have hn : stepOk u (p.getD k 0) = false := by simp only [stepOk, Bool.and_eq_false_iff, decide_eq_false_iff_not]; omega
     rw [drop_at (by omega)] at h1 h2
     rw [stopT, if_neg (by rw [hn]; simp)] at h1
     rw [atOk, hn, Bool.false_and] at h2
     subst hR
     exact fin_tbP h1 h2
   · have hn : stepOk u (p.getD k 0) = true := by simp only [stepOk, Bool.and_eq_true, decide_eq_true_eq]; omega
     rw [drop_at (by omega)] at h1 h2
     rw [stopT, if_pos hn] at h1
     rw [atOk, hn, Bool.true_and] at h2
     exact ⟨(k + 1, kidAt u (p.getD k 0)), ⟨⟨by dsimp only; omega, hu.kidAt hn⟩, h1, h2⟩, by dsimp only; omega, rfl, by simp⟩
   · have hn : stepOk u (p.getD k 0) = false := by simp only [stepOk, Bool.and_eq_false_iff, decide_eq_false_iff_not]; omega
     rw [drop_at (by omega)] at h1 h2
     rw [stopT, if_neg (by rw [hn]; simp)] at h1
     rw [atOk, hn, Bool.false_and] at h2
     subst hR
     exact fin_tbP h1 h2
   · rw [List.drop_of_length_le (by omega)] at h1 h2
     rw [stopT] at h1
     rw [atOk] at h2
     subst hR
     exact fin_tbP (by first | exact h1 | (rw [h2]; exact h1)) h2
def atV (t : LTerm) (p : List Int) : Res := if validT nodeB t then (if atOk t p then (stopT t p, 0) else (tZ, 4)) else (tZ, 2)
theorem stop_ok : ∀ {p : List Int} {t : LTerm}, OkT t → OkT (stopT t p)
 | [], t, h => h
 | i :: p, t, h => by
   rw [stopT]
   split
   · rename_i hi
     exact stop_ok (h.kidAt hi)
   · exact h
theorem ctr347 (t : LTerm) (p : List Int) (ht : OkT t) (hp : PathOk p): CT 39 [elT t, avi p] (resV (atV t p)) := by
 refine sem_introA mixed Tryz.func39 g0 ?_
 · generalize hR : ((resV (atV t p)) : AV) = R
   simp -implicitDefEqProofs (disch := omega) only [Tryz.f39, go_sem, List.replicate, ↓reduceIte, reduceAdd, reduceSub, reduceMul, reduceLeDiff, reduceLT, reduceEqDiff, reduceNeg, Nat.reduceBEq, avi]
   have c := ctr242 t ht
   have c1 := ctr367 t p ht hp
   have c2 := ctr233 (stopT t p) (stop_ok ht)
   cases hv : validT nodeB t with
   | false =>
     rw [hv] at c
     (repeat' (first | refine gT ?_ ?_ | refine gF ?_ ?_ | refine gC ?_ ?_ | ((refine c_ctrE (c) ?_ ?_; (focus (simp -implicitDefEqProofs (disch := omega) only [avs, avb, avi, avo, sigCells, opCells, pairCells, elT, avt, termCells_eq, go_sem, ↓reduceIte, reduceAdd, reduceSub, reduceMul, reduceLeDiff, reduceLT, reduceEqDiff, reduceNeg, Nat.reduceBEq]; done))); simp -implicitDefEqProofs (disch := omega) only [go_sem, ↓reduceIte, reduceAdd, reduceSub, reduceMul, reduceLeDiff, reduceLT, reduceEqDiff, reduceNeg, Nat.reduceBEq]) | refine And.intro (by omega) ?_ | (intro hr; have hc := hr; (try simp only [zda, zdb, zdc, zdd] at hc); simp -implicitDefEqProofs (disch := omega) only [hr, go_sem, ↓reduceIte, reduceAdd, reduceSub, reduceMul, reduceLeDiff, reduceLT, reduceEqDiff, reduceNeg, Nat.reduceBEq]; (try clear hr))))
     subst hR
     exact fin_res (by rw [atV, hv]; rfl) rd6_e0 rd6_e0
   | true =>
     rw [hv] at c
     cases ha : atOk t p with
     | false =>
       rw [ha] at c1
       (repeat' (first | refine gT ?_ ?_ | refine gF ?_ ?_ | refine gC ?_ ?_ | ((first | (refine c_ctrE (c) ?_ ?_; (focus (simp -implicitDefEqProofs (disch := omega) only [resB, avs, avb, avi, avo, sigCells, opCells, pairCells, elT, avt, termCells_eq, go_sem, ↓reduceIte, reduceAdd, reduceSub, reduceMul, reduceLeDiff, reduceLT, reduceEqDiff, reduceNeg, Nat.reduceBEq]; done))) | (refine c_ctrE (c1) ?_ ?_; (focus (simp -implicitDefEqProofs (disch := omega) only [resB, avs, avb, avi, avo, sigCells, opCells, pairCells, elT, avt, termCells_eq, go_sem, ↓reduceIte, reduceAdd, reduceSub, reduceMul, reduceLeDiff, reduceLT, reduceEqDiff, reduceNeg, Nat.reduceBEq]; done)))); simp -implicitDefEqProofs (disch := omega) only [resB, go_sem, ↓reduceIte, reduceAdd, reduceSub, reduceMul, reduceLeDiff, reduceLT, reduceEqDiff, reduceNeg, Nat.reduceBEq]) | refine And.intro (by omega) ?_ | (intro hr; have hc := hr; (try simp only [zda, zdb, zdc, zdd] at hc); simp -implicitDefEqProofs (disch := omega) only [hr, resB, go_sem, ↓reduceIte, reduceAdd, reduceSub, reduceMul, reduceLeDiff, reduceLT, reduceEqDiff, reduceNeg, Nat.reduceBEq]; (try clear hr))))
       subst hR
       exact fin_res (by rw [atV, hv, ha]; rfl) rd6_e0 rd6_e0
     | true =>
       rw [ha] at c1
       (repeat' (first | refine gT ?_ ?_ | refine gF ?_ ?_ | refine gC ?_ ?_ | ((first | (refine c_ctrE (c) ?_ ?_; (focus (simp -implicitDefEqProofs (disch := omega) only [resB, avs, avb, avi, avo, sigCells, opCells, pairCells, elT, avt, termCells_eq, go_sem, ↓reduceIte, reduceAdd, reduceSub, reduceMul, reduceLeDiff, reduceLT, reduceEqDiff, reduceNeg, Nat.reduceBEq]; done))) | (refine c_ctrE (c1) ?_ ?_; (focus (simp -implicitDefEqProofs (disch := omega) only [resB, avs, avb, avi, avo, sigCells, opCells, pairCells, elT, avt, termCells_eq, go_sem, ↓reduceIte, reduceAdd, reduceSub, reduceMul, reduceLeDiff, reduceLT, reduceEqDiff, reduceNeg, Nat.reduceBEq]; done))) | (refine c_ctrE (c2) ?_ ?_; (focus (simp -implicitDefEqProofs (disch := omega) only [resB, avs, avb, avi, avo, sigCells, opCells, pairCells, elT, avt, termCells_eq, go_sem, ↓reduceIte, reduceAdd, reduceSub, reduceMul, reduceLeDiff, reduceLT, reduceEqDiff, reduceNeg, Nat.reduceBEq]; done)))); simp -implicitDefEqProofs (disch := omega) only [resB, go_sem, ↓reduceIte, reduceAdd, reduceSub, reduceMul, reduceLeDiff, reduceLT, reduceEqDiff, reduceNeg, Nat.reduceBEq]) | refine And.intro (by omega) ?_ | (intro hr; have hc := hr; (try simp only [zda, zdb, zdc, zdd] at hc); simp -implicitDefEqProofs (disch := omega) only [hr, resB, go_sem, ↓reduceIte, reduceAdd, reduceSub, reduceMul, reduceLeDiff, reduceLT, reduceEqDiff, reduceNeg, Nat.reduceBEq]; (try clear hr))))
       subst hR
       have he : atV t p = (stopT t p, 0) := by rw [atV, hv, ha]; rfl
       exact fin_resP he

def withT : LTerm → List Int → LTerm → LTerm
 | _, [], u => u
 | t, i :: p, u => .mk t.kind t.n t.text t.sort (t.kids.set i.toNat (withT (kidAt t i) p u)) t.rest
theorem ctr383 (l : List LTerm) (h0 : l.length ≠ 0) (hl : l.length ≤ 1466015503701): CT 142 [avt l] (.own 6 (l.flatMap termCells) l.length) := by
 refine sem_introA mixed Tryz.func142 g0 ?_
 · simp -implicitDefEqProofs (disch := omega) only [Tryz.f142, go_sem, List.replicate, ↓reduceIte, reduceAdd, reduceSub, reduceMul, reduceLeDiff, reduceLT, reduceEqDiff, reduceNeg, Nat.reduceBEq, avt]
   (repeat' (first | refine gT ?_ ?_ | refine gF ?_ ?_ | refine gC ?_ ?_ | refine And.intro (by omega) ?_ | (intro hr; have hc := hr; (try simp only [zda, zdb, zdc, zdd] at hc); simp -implicitDefEqProofs (disch := omega) only [hr, go_sem, ↓reduceIte, reduceAdd, reduceSub, reduceMul, reduceLeDiff, reduceLT, reduceEqDiff, reduceNeg, Nat.reduceBEq]; (try clear hr))))
   · cases hc
   · exact fin_out (pre := []) (g := [.arr false 6 (l.flatMap termCells)]) (.inr ⟨0, rfl, rfl, by rw [term_flat_len]⟩) persTs
theorem set_cells {l : List LTerm} {i : Nat} {x : LTerm} (h : i < l.length) : (l.set i x).flatMap termCells = (l.take i).flatMap termCells ++ (termCells x ++ (l.flatMap termCells).drop (i * 6 + 6)) := by
 rw [List.set_eq_take_append_cons_drop, if_pos h, List.flatMap_append, List.flatMap_cons, show i * 6 + 6 = (i + 1) * 6 by omega, term_drop]
theorem rd_set {H : List AObj} {b i : Nat} {l : List LTerm} {x : LTerm} (h : i < l.length) (hH : H[b]? = some (.arr false 6 ((l.take i).flatMap termCells ++ (termCells x ++ (l.flatMap termCells).drop (i * 6 + 6))))) : Rd6 H (.hs b 0 l.length false) (l.set i x) := by
 rw [← set_cells h] at hH
 refine .inr (.inr ⟨b, 0, false, false, _, by rw [List.length_set], hH, ?_, ?_⟩)
 · rw [term_flat_len]; omega
 · rw [List.drop_zero, List.take_of_length_le (by rw [term_flat_len]; exact Nat.le_refl _)]
theorem ctr369_0 (t u : LTerm): CT 78 [elT t, avi [], elT u] (elT u) := by
 refine sem_introA mixed Tryz.func78 g0 ?_
 · simp -implicitDefEqProofs (disch := omega) only [Tryz.f78, go_sem, List.replicate, ↓reduceIte, reduceAdd, reduceSub, reduceMul, reduceLeDiff, reduceLT, reduceEqDiff, reduceNeg, Nat.reduceBEq, avi, List.map_nil, List.length_nil]
   (repeat' (first | refine gT ?_ ?_ | refine gF ?_ ?_ | refine gC ?_ ?_ | refine And.intro (by omega) ?_ | (intro hr; have hc := hr; (try simp only [zda, zdb, zdc, zdd] at hc); simp -implicitDefEqProofs (disch := omega) only [hr, go_sem, ↓reduceIte, reduceAdd, reduceSub, reduceMul, reduceLeDiff, reduceLT, reduceEqDiff, reduceNeg, Nat.reduceBEq]; (try clear hr))))
   exact fin_eq rfl (by simp only [pers, persL, persTs, Bool.and_self])
theorem ctr369_1 (t u : LTerm) (i : Int) (p : List Int) (ht : OkT t) (hu : OkT u) (hp : PathOk (i :: p)) (hi : stepOk t i = true) (ih : CT 78 [elT (kidAt t i), avi p, elT u] (elT (withT (kidAt t i) p u))): CT 78 [elT t, avi (i :: p), elT u] (elT (withT t (i :: p) u)) := by
 refine sem_introA mixed Tryz.func78 g0 ?_
 · generalize hR : ((elT (withT t (i :: p) u)) : AV) = R
   simp -implicitDefEqProofs (disch := omega) only [Tryz.f78, go_sem, List.replicate, ↓reduceIte, reduceAdd, reduceSub, reduceMul, reduceLeDiff, reduceLT, reduceEqDiff, reduceNeg, Nat.reduceBEq, avi, List.map_cons, List.length_cons]
   have hq := hp.1
   have hb := hp.2 i (by simp)
   have hl := ht.kids
   have hs := hi
   simp only [stepOk, Bool.and_eq_true, decide_eq_true_eq] at hs
   rw [List.length_cons] at hq
   (repeat' (first | refine gT ?_ ?_ | refine gF ?_ ?_ | refine gC ?_ ?_ | ((first | (refine c_ctrE ((ctr383 t.kids (by omega) ht.kids)) ?_ ?_; (focus (simp -implicitDefEqProofs (disch := omega) only [Nat.add_sub_cancel, kidAt, avs, avb, avi, avo, sigCells, opCells, pairCells, elT, avt, termCells_eq, go_sem, ↓reduceIte, reduceAdd, reduceSub, reduceMul, reduceLeDiff, reduceLT, reduceEqDiff, reduceNeg, Nat.reduceBEq]; done))) | (refine c_ctrE (ih) ?_ ?_; (focus (simp -implicitDefEqProofs (disch := omega) only [Nat.add_sub_cancel, kidAt, avs, avb, avi, avo, sigCells, opCells, pairCells, elT, avt, termCells_eq, go_sem, ↓reduceIte, reduceAdd, reduceSub, reduceMul, reduceLeDiff, reduceLT, reduceEqDiff, reduceNeg, Nat.reduceBEq]; done)))); simp -implicitDefEqProofs (disch := omega) only [Nat.add_sub_cancel, kidAt, go_sem, ↓reduceIte, reduceAdd, reduceSub, reduceMul, reduceLeDiff, reduceLT, reduceEqDiff, reduceNeg, Nat.reduceBEq]) | refine And.intro (by omega) ?_ | (intro hr; have hc := hr; (try simp only [zda, zdb, zdc, zdd] at hc); simp -implicitDefEqProofs (disch := omega) only [hr, Nat.add_sub_cancel, kidAt, go_sem, ↓reduceIte, reduceAdd, reduceSub, reduceMul, reduceLeDiff, reduceLT, reduceEqDiff, reduceNeg, Nat.reduceBEq]; (try clear hr))))
   · exfalso; omega
   · subst hR
     rw [withT]
     refine fin_t (t := .mk t.kind t.n t.text t.sort (t.kids.set i.toNat (withT (kidAt t i) p u)) t.rest) (rd_set (by omega) (b := 3) ?_) rd6_sl
     rw [termCells_eq]
     rfl
theorem ctr369 : ∀ (p : List Int) (t u : LTerm), OkT t → OkT u → PathOk p → atOk t p = true → CT 78 [elT t, avi p, elT u] (elT (withT t p u))
 | [], t, u, ht, hu, hp, h => ctr369_0 t u
 | i :: p, t, u, ht, hu, hp, h => by
   rw [atOk, Bool.and_eq_true] at h
   exact ctr369_1 t u i p ht hu hp h.1 (ctr369 p _ u (ht.kidAt h.1) hu ⟨by have := hp.1; rw [List.length_cons] at this; omega, fun j hj => hp.2 j (by simp [hj])⟩ h.2)

theorem mem_set {α : Type} {l : List α} {i : Nat} {x y : α} (h : y ∈ l.set i x) : y = x ∨ y ∈ l := by
 rcases List.mem_or_eq_of_mem_set h with h | h
 · exact .inr h
 · exact .inl h
theorem with_ok : ∀ {p : List Int} {t u : LTerm}, OkT t → OkT u → atOk t p = true → OkT (withT t p u)
 | [], t, u, ht, hu, h => hu
 | i :: p, t, u, ht, hu, h => by
   rw [atOk, Bool.and_eq_true] at h
   have hw := with_ok (p := p) (ht.kidAt h.1) hu h.2
   rw [withT]
   refine .mk ht.text ht.sort ht.nlo ht.nhi ?_ ht.rest ?_ ht.rst
   · simp only [LTerm.kids, List.length_set]; exact ht.kids
   · intro k hk
     rcases mem_set hk with rfl | hk
     · exact hw
     · exact ht.kid k hk
def withV (t : LTerm) (p : List Int) (u : LTerm) : Res :=
 if validT nodeB t && validT nodeB u then (if atOk t p then (if validT nodeB (withT t p u) then (withT t p u, 0) else (tZ, 3)) else (tZ, 4)) else (tZ, 2)
theorem ctr349 (t u : LTerm) (p : List Int) (ht : OkT t) (hu : OkT u) (hp : PathOk p): CT 41 [elT t, avi p, elT u] (resV (withV t p u)) := by
 refine sem_introA mixed Tryz.func41 g0 ?_
 · generalize hR : ((resV (withV t p u)) : AV) = R
   simp -implicitDefEqProofs (disch := omega) only [Tryz.f41, go_sem, List.replicate, ↓reduceIte, reduceAdd, reduceSub, reduceMul, reduceLeDiff, reduceLT, reduceEqDiff, reduceNeg, Nat.reduceBEq, avi]
   have c := ctr242 t ht
   have d := ctr242 u hu
   have c1 := ctr367 t p ht hp
   cases hv : validT nodeB t with
   | false =>
     rw [hv] at c
     (repeat' (first | refine gT ?_ ?_ | refine gF ?_ ?_ | refine gC ?_ ?_ | ((refine c_ctrE (c) ?_ ?_; (focus (simp -implicitDefEqProofs (disch := omega) only [avs, avb, avi, avo, sigCells, opCells, pairCells, elT, avt, termCells_eq, go_sem, ↓reduceIte, reduceAdd, reduceSub, reduceMul, reduceLeDiff, reduceLT, reduceEqDiff, reduceNeg, Nat.reduceBEq]; done))); simp -implicitDefEqProofs (disch := omega) only [go_sem, ↓reduceIte, reduceAdd, reduceSub, reduceMul, reduceLeDiff, reduceLT, reduceEqDiff, reduceNeg, Nat.reduceBEq]) | refine And.intro (by omega) ?_ | (intro hr; have hc := hr; (try simp only [zda, zdb, zdc, zdd] at hc); simp -implicitDefEqProofs (disch := omega) only [hr, go_sem, ↓reduceIte, reduceAdd, reduceSub, reduceMul, reduceLeDiff, reduceLT, reduceEqDiff, reduceNeg, Nat.reduceBEq]; (try clear hr))))
     subst hR
     exact fin_res (by rw [withV, hv]; rfl) rd6_e0 rd6_e0
   | true =>
     rw [hv] at c
     cases hv2 : validT nodeB u with
     | false =>
       rw [hv2] at d
       (repeat' (first | refine gT ?_ ?_ | refine gF ?_ ?_ | refine gC ?_ ?_ | ((first | (refine c_ctrE (c) ?_ ?_; (focus (simp -implicitDefEqProofs (disch := omega) only [avs, avb, avi, avo, sigCells, opCells, pairCells, elT, avt, termCells_eq, go_sem, ↓reduceIte, reduceAdd, reduceSub, reduceMul, reduceLeDiff, reduceLT, reduceEqDiff, reduceNeg, Nat.reduceBEq]; done))) | (refine c_ctrE (d) ?_ ?_; (focus (simp -implicitDefEqProofs (disch := omega) only [avs, avb, avi, avo, sigCells, opCells, pairCells, elT, avt, termCells_eq, go_sem, ↓reduceIte, reduceAdd, reduceSub, reduceMul, reduceLeDiff, reduceLT, reduceEqDiff, reduceNeg, Nat.reduceBEq]; done)))); simp -implicitDefEqProofs (disch := omega) only [go_sem, ↓reduceIte, reduceAdd, reduceSub, reduceMul, reduceLeDiff, reduceLT, reduceEqDiff, reduceNeg, Nat.reduceBEq]) | refine And.intro (by omega) ?_ | (intro hr; have hc := hr; (try simp only [zda, zdb, zdc, zdd] at hc); simp -implicitDefEqProofs (disch := omega) only [hr, go_sem, ↓reduceIte, reduceAdd, reduceSub, reduceMul, reduceLeDiff, reduceLT, reduceEqDiff, reduceNeg, Nat.reduceBEq]; (try clear hr))))
       subst hR
       exact fin_res (by rw [withV, hv, hv2]; rfl) rd6_e0 rd6_e0
     | true =>
       rw [hv2] at d
       cases ha : atOk t p with
       | false =>
         rw [ha] at c1
         skip
         (repeat' (first | refine gT ?_ ?_ | refine gF ?_ ?_ | refine gC ?_ ?_ | ((first | (refine c_ctrE (c) ?_ ?_; (focus (simp -implicitDefEqProofs (disch := omega) only [resB, avs, avb, avi, avo, sigCells, opCells, pairCells, elT, avt, termCells_eq, go_sem, ↓reduceIte, reduceAdd, reduceSub, reduceMul, reduceLeDiff, reduceLT, reduceEqDiff, reduceNeg, Nat.reduceBEq]; done))) | (refine c_ctrE (d) ?_ ?_; (focus (simp -implicitDefEqProofs (disch := omega) only [resB, avs, avb, avi, avo, sigCells, opCells, pairCells, elT, avt, termCells_eq, go_sem, ↓reduceIte, reduceAdd, reduceSub, reduceMul, reduceLeDiff, reduceLT, reduceEqDiff, reduceNeg, Nat.reduceBEq]; done))) | (refine c_ctrE (c1) ?_ ?_; (focus (simp -implicitDefEqProofs (disch := omega) only [resB, avs, avb, avi, avo, sigCells, opCells, pairCells, elT, avt, termCells_eq, go_sem, ↓reduceIte, reduceAdd, reduceSub, reduceMul, reduceLeDiff, reduceLT, reduceEqDiff, reduceNeg, Nat.reduceBEq]; done)))); simp -implicitDefEqProofs (disch := omega) only [resB, go_sem, ↓reduceIte, reduceAdd, reduceSub, reduceMul, reduceLeDiff, reduceLT, reduceEqDiff, reduceNeg, Nat.reduceBEq]) | refine And.intro (by omega) ?_ | (intro hr; have hc := hr; (try simp only [zda, zdb, zdc, zdd] at hc); simp -implicitDefEqProofs (disch := omega) only [hr, resB, go_sem, ↓reduceIte, reduceAdd, reduceSub, reduceMul, reduceLeDiff, reduceLT, reduceEqDiff, reduceNeg, Nat.reduceBEq]; (try clear hr))))
         subst hR
         exact fin_res (by rw [withV, hv, hv2, ha]; rfl) rd6_e0 rd6_e0
       | true =>
         rw [ha] at c1
         skip
         have ow := with_ok ht hu ha
         have c2 := ctr369 p t u ht hu hp ha
         have c3 := ctr233 _ ow
         have c4 := ctr242 _ ow
         cases hv3 : validT nodeB (withT t p u) with
         | false =>
           have he : withV t p u = (tZ, 3) := by rw [withV, hv, hv2, ha, hv3]; rfl
           rw [hv3] at c4
           generalize withT t p u = w at *
           (repeat' (first | refine gT ?_ ?_ | refine gF ?_ ?_ | refine gC ?_ ?_ | ((first | (refine c_ctrE (c) ?_ ?_; (focus (simp -implicitDefEqProofs (disch := omega) only [resB, avs, avb, avi, avo, sigCells, opCells, pairCells, elT, avt, termCells_eq, go_sem, ↓reduceIte, reduceAdd, reduceSub, reduceMul, reduceLeDiff, reduceLT, reduceEqDiff, reduceNeg, Nat.reduceBEq]; done))) | (refine c_ctrE (d) ?_ ?_; (focus (simp -implicitDefEqProofs (disch := omega) only [resB, avs, avb, avi, avo, sigCells, opCells, pairCells, elT, avt, termCells_eq, go_sem, ↓reduceIte, reduceAdd, reduceSub, reduceMul, reduceLeDiff, reduceLT, reduceEqDiff, reduceNeg, Nat.reduceBEq]; done))) | (refine c_ctrE (c1) ?_ ?_; (focus (simp -implicitDefEqProofs (disch := omega) only [resB, avs, avb, avi, avo, sigCells, opCells, pairCells, elT, avt, termCells_eq, go_sem, ↓reduceIte, reduceAdd, reduceSub, reduceMul, reduceLeDiff, reduceLT, reduceEqDiff, reduceNeg, Nat.reduceBEq]; done))) | (refine c_ctrE (c2) ?_ ?_; (focus (simp -implicitDefEqProofs (disch := omega) only [resB, avs, avb, avi, avo, sigCells, opCells, pairCells, elT, avt, termCells_eq, go_sem, ↓reduceIte, reduceAdd, reduceSub, reduceMul, reduceLeDiff, reduceLT, reduceEqDiff, reduceNeg, Nat.reduceBEq]; done))) | (refine c_ctrE (c3) ?_ ?_; (focus (simp -implicitDefEqProofs (disch := omega) only [resB, avs, avb, avi, avo, sigCells, opCells, pairCells, elT, avt, termCells_eq, go_sem, ↓reduceIte, reduceAdd, reduceSub, reduceMul, reduceLeDiff, reduceLT, reduceEqDiff, reduceNeg, Nat.reduceBEq]; done))) | (refine c_ctrE (c4) ?_ ?_; (focus (simp -implicitDefEqProofs (disch := omega) only [resB, avs, avb, avi, avo, sigCells, opCells, pairCells, elT, avt, termCells_eq, go_sem, ↓reduceIte, reduceAdd, reduceSub, reduceMul, reduceLeDiff, reduceLT, reduceEqDiff, reduceNeg, Nat.reduceBEq]; done)))); simp -implicitDefEqProofs (disch := omega) only [resB, go_sem, ↓reduceIte, reduceAdd, reduceSub, reduceMul, reduceLeDiff, reduceLT, reduceEqDiff, reduceNeg, Nat.reduceBEq]) | refine And.intro (by omega) ?_ | (intro hr; have hc := hr; (try simp only [zda, zdb, zdc, zdd] at hc); simp -implicitDefEqProofs (disch := omega) only [hr, resB, go_sem, ↓reduceIte, reduceAdd, reduceSub, reduceMul, reduceLeDiff, reduceLT, reduceEqDiff, reduceNeg, Nat.reduceBEq]; (try clear hr))))
           subst hR
           exact fin_res he rd6_e0 rd6_e0
         | true =>
           have he : withV t p u = (withT t p u, 0) := by rw [withV, hv, hv2, ha, hv3]; rfl
           rw [hv3] at c4
           generalize withT t p u = w at *
           (repeat' (first | refine gT ?_ ?_ | refine gF ?_ ?_ | refine gC ?_ ?_ | ((first | (refine c_ctrE (c) ?_ ?_; (focus (simp -implicitDefEqProofs (disch := omega) only [resB, avs, avb, avi, avo, sigCells, opCells, pairCells, elT, avt, termCells_eq, go_sem, ↓reduceIte, reduceAdd, reduceSub, reduceMul, reduceLeDiff, reduceLT, reduceEqDiff, reduceNeg, Nat.reduceBEq]; done))) | (refine c_ctrE (d) ?_ ?_; (focus (simp -implicitDefEqProofs (disch := omega) only [resB, avs, avb, avi, avo, sigCells, opCells, pairCells, elT, avt, termCells_eq, go_sem, ↓reduceIte, reduceAdd, reduceSub, reduceMul, reduceLeDiff, reduceLT, reduceEqDiff, reduceNeg, Nat.reduceBEq]; done))) | (refine c_ctrE (c1) ?_ ?_; (focus (simp -implicitDefEqProofs (disch := omega) only [resB, avs, avb, avi, avo, sigCells, opCells, pairCells, elT, avt, termCells_eq, go_sem, ↓reduceIte, reduceAdd, reduceSub, reduceMul, reduceLeDiff, reduceLT, reduceEqDiff, reduceNeg, Nat.reduceBEq]; done))) | (refine c_ctrE (c2) ?_ ?_; (focus (simp -implicitDefEqProofs (disch := omega) only [resB, avs, avb, avi, avo, sigCells, opCells, pairCells, elT, avt, termCells_eq, go_sem, ↓reduceIte, reduceAdd, reduceSub, reduceMul, reduceLeDiff, reduceLT, reduceEqDiff, reduceNeg, Nat.reduceBEq]; done))) | (refine c_ctrE (c3) ?_ ?_; (focus (simp -implicitDefEqProofs (disch := omega) only [resB, avs, avb, avi, avo, sigCells, opCells, pairCells, elT, avt, termCells_eq, go_sem, ↓reduceIte, reduceAdd, reduceSub, reduceMul, reduceLeDiff, reduceLT, reduceEqDiff, reduceNeg, Nat.reduceBEq]; done))) | (refine c_ctrE (c4) ?_ ?_; (focus (simp -implicitDefEqProofs (disch := omega) only [resB, avs, avb, avi, avo, sigCells, opCells, pairCells, elT, avt, termCells_eq, go_sem, ↓reduceIte, reduceAdd, reduceSub, reduceMul, reduceLeDiff, reduceLT, reduceEqDiff, reduceNeg, Nat.reduceBEq]; done)))); simp -implicitDefEqProofs (disch := omega) only [resB, go_sem, ↓reduceIte, reduceAdd, reduceSub, reduceMul, reduceLeDiff, reduceLT, reduceEqDiff, reduceNeg, Nat.reduceBEq]) | refine And.intro (by omega) ?_ | (intro hr; have hc := hr; (try simp only [zda, zdb, zdc, zdd] at hc); simp -implicitDefEqProofs (disch := omega) only [hr, resB, go_sem, ↓reduceIte, reduceAdd, reduceSub, reduceMul, reduceLeDiff, reduceLT, reduceEqDiff, reduceNeg, Nat.reduceBEq]; (try clear hr))))
           subst hR
           exact fin_resP he

theorem kid_set {t : LTerm} {i : Int} {w : LTerm} (h : stepOk t i = true) : stepOk (.mk t.kind t.n t.text t.sort (t.kids.set i.toNat w) t.rest) i = true ∧ kidAt (.mk t.kind t.n t.text t.sort (t.kids.set i.toNat w) t.rest) i = w := by
 have e : ∀ ks : List LTerm, (LTerm.mk t.kind t.n t.text t.sort ks t.rest).kids = ks := fun _ => rfl
 simp only [stepOk, Bool.and_eq_true, decide_eq_true_eq, List.length_set, kidAt, e] at h ⊢
 refine ⟨h, ?_⟩
 have : i.toNat < t.kids.length := by omega
 simp [List.getD, this]
theorem with_at : ∀ {p : List Int} {t u : LTerm}, atOk t p = true → atOk (withT t p u) p = true ∧ stopT (withT t p u) p = u
 | [], t, u, _ => ⟨rfl, rfl⟩
 | i :: p, t, u, h => by
   rw [atOk, Bool.and_eq_true] at h
   have k := kid_set (w := withT (kidAt t i) p u) h.1
   have r := with_at (p := p) (u := u) h.2
   rw [withT, atOk, stopT, if_pos k.1, k.1, k.2, Bool.true_and]
   exact r
theorem with_back : ∀ {p : List Int} {t u : LTerm}, atOk t p = true → withT (withT t p u) p (stopT t p) = t
 | [], t, u, _ => rfl
 | i :: p, t, u, h => by
   rw [atOk, Bool.and_eq_true] at h
   have k := kid_set (w := withT (kidAt t i) p u) h.1
   have r := with_back (p := p) (u := u) h.2
   rw [withT, withT, k.2, stopT, if_pos h.1, r]
   simp only [LTerm.kind, LTerm.n, LTerm.text, LTerm.sort, LTerm.kids, LTerm.rest, List.set_set]
   have hs := h.1
   simp only [stepOk, Bool.and_eq_true, decide_eq_true_eq] at hs
   have e : t.kids.set i.toNat (kidAt t i) = t.kids := by
     have hl : i.toNat < t.kids.length := by omega
     rw [kidAt, List.getD, List.getElem?_eq_getElem hl, Option.getD_some, List.set_getElem_self]
   have hh : ∀ ks, ks = t.kids → LTerm.mk t.kind t.n t.text t.sort ks t.rest = t := fun ks e => by rw [e, LTerm.eta]
   exact hh _ e
theorem nodesL_app {a b : List LTerm} : nodesL (a ++ b) = nodesL a + nodesL b := by
 induction a with
 | nil => simp [nodesL]
 | cons x a ih => rw [List.cons_append, nodesL, nodesL, ih]; omega
theorem nodesL_set {l : List LTerm} {i : Nat} {w : LTerm} (h : i < l.length) : nodesL (l.set i w) + nodesT (l.getD i default) = nodesL l + nodesT w := by
 have e1 : l = l.take i ++ l.getD i default :: l.drop (i + 1) := by
   have : l.getD i default :: l.drop (i + 1) = l.drop i := by rw [List.drop_eq_getElem_cons h]; simp [List.getD, h]
   rw [this, List.take_append_drop]
 have e2 : l.set i w = l.take i ++ w :: l.drop (i + 1) := by rw [List.set_eq_take_append_cons_drop, if_pos h]
 have e3 : nodesL l = nodesL (l.take i) + (nodesT (l.getD i default) + nodesL (l.drop (i + 1))) := by
   conv => lhs; rw [e1]
   rw [nodesL_app, nodesL]
 rw [e2, nodesL_app, nodesL, e3]; omega
theorem with_size : ∀ {p : List Int} {t u : LTerm}, atOk t p = true → nodesT (withT t p u) + nodesT (stopT t p) = nodesT t + nodesT u
 | [], t, u, _ => by rw [withT, stopT]; omega
 | i :: p, t, u, h => by
   rw [atOk, Bool.and_eq_true] at h
   have r := with_size (p := p) (u := u) h.2
   have hs := h.1
   simp only [stepOk, Bool.and_eq_true, decide_eq_true_eq] at hs
   have s := nodesL_set (l := t.kids) (i := i.toNat) (w := withT (kidAt t i) p u) (by omega)
   have e := nodesT_eq t
   rw [withT, stopT, if_pos h.1, nodesT]
   rw [show t.kids.getD i.toNat default = kidAt t i from rfl] at s
   omega
theorem valid_kidV {t c : LTerm} (h : c ∈ t.kids) (hv : validT nodeB t = true) : validT nodeB c = true := by
 simp only [validT, Bool.and_eq_true, decide_eq_true_eq] at hv ⊢
 have m := nodesT_mem h
 have e1 := nodesT_eq t
 have e2 := highT_eq t
 exact ⟨⟨(wfT_eq.1 hv.1.1).2 c h, by omega⟩, by omega⟩
theorem valid_stop : ∀ {p : List Int} {t : LTerm}, validT nodeB t = true → atOk t p = true → validT nodeB (stopT t p) = true
 | [], t, hv, _ => hv
 | i :: p, t, hv, h => by
   rw [atOk, Bool.and_eq_true] at h
   have hs := h.1
   simp only [stepOk, Bool.and_eq_true, decide_eq_true_eq] at hs
   rw [stopT, if_pos h.1]
   exact valid_stop (valid_kidV (mem_getD (by omega)) hv) h.2
theorem sizeV_ok {t : LTerm} (hv : validT nodeB t = true) : sizeV t = ((nodesT t : Int), 0) := by rw [sizeV, hv]; rfl
theorem atV_ok {t : LTerm} {p : List Int} (hv : validT nodeB t = true) (h : atOk t p = true) : atV t p = (stopT t p, 0) := by rw [atV, hv, h]; rfl
theorem withV_ok {t u : LTerm} {p : List Int} (hv : validT nodeB t = true) (hu : validT nodeB u = true) (h : atOk t p = true) (hw : validT nodeB (withT t p u) = true) : withV t p u = (withT t p u, 0) := by rw [withV, hv, hu, h, hw]; rfl
structure WithOk (t u : LTerm) (p : List Int) (w old : LTerm) : Prop where
 a1 : atV t p = (old, 0)
 a2 : withV t p u = (w, 0)
 a3 : atV w p = (u, 0)
 a4 : withV w p old = (t, 0)
 vt : validT nodeB t = true
 vu : validT nodeB u = true
 vo : validT nodeB old = true
 vw : validT nodeB w = true
 sz : nodesT w + nodesT old = nodesT t + nodesT u
theorem withOk_of {t u : LTerm} {p : List Int} (hv : validT nodeB t = true) (hu : validT nodeB u = true) (h : atOk t p = true) (hw : validT nodeB (withT t p u) = true) : WithOk t u p (withT t p u) (stopT t p) := by
 have a := with_at (u := u) h
 have b := with_back (u := u) h
 have vo := valid_stop hv h
 refine ⟨atV_ok hv h, withV_ok hv hu h hw, ?_, ?_, hv, hu, vo, hw, with_size h⟩
 · rw [atV_ok hw a.1, a.2]
 · rw [withV_ok hw vo a.1 (by rw [b]; exact hv), b]
theorem node_le {t : LTerm} (h : validT nodeB t = true) : nodesT t ≤ 2000 := by
 simp only [validT, Bool.and_eq_true, decide_eq_true_eq] at h; omega
theorem with_bad {t u : LTerm} {p : List Int} (h : (validT nodeB t && validT nodeB u && atOk t p && validT nodeB (withT t p u)) = false) : ∃ x e y f, atV t p = (x, e) ∧ withV t p u = (y, f) ∧ (e = 0 ∧ ¬ f = 0 ∨ ¬ e = 0 ∧ f = e ∨ ¬ e = 0 ∧ f = 2) := by
 refine ⟨(atV t p).1, (atV t p).2, (withV t p u).1, (withV t p u).2, rfl, rfl, ?_⟩
 unfold atV withV
 cases h1 : validT nodeB t <;> cases h2 : validT nodeB u <;> cases h3 : atOk t p <;> cases h4 : validT nodeB (withT t p u) <;> rw [h1, h2, h3, h4] at h <;> first | (simp at h; done) | (simp; done)
theorem ctr324 (t u : LTerm) (p : List Int) (ht : OkT t) (hu : OkT u) (hp : PathOk p): CT 10 [elT t, elT u, avi p] (.b true) := by
 refine sem_introA mixed Tryz.func10 g0 ?_
 · simp -implicitDefEqProofs (disch := omega) only [Tryz.f10, go_sem, List.replicate, ↓reduceIte, reduceAdd, reduceSub, reduceMul, reduceLeDiff, reduceLT, reduceEqDiff, reduceNeg, Nat.reduceBEq, avi, List.flatten_cons, List.flatten_nil, List.append_nil]
   have ft := few1 t ht
   have fu := few1 u hu
   have hq := hp.1
   rcases bool_em (fewP 2600 [t]) with h1 | h1
   · rw [h1] at ft
     rcases bool_em (fewP 2600 [u]) with h2 | h2
     · rw [h2] at fu
       by_cases hl : 100 < p.length
       · have e2 : (100 < (p.length : Int)) = True := eq_true (by omega)
         (repeat' (first | refine gT ?_ ?_ | refine gF ?_ ?_ | refine gC ?_ ?_ | ((first | (refine c_ctrE (ft) ?_ ?_; (focus (simp -implicitDefEqProofs (disch := omega) only [List.flatMap_cons, List.flatMap_nil, List.append_nil, List.length_cons, List.length_nil, rep1t, List.flatten_cons, List.flatten_nil, e2, decide_true, avs, avb, avi, avo, sigCells, opCells, pairCells, elT, avt, termCells_eq, go_sem, ↓reduceIte, reduceAdd, reduceSub, reduceMul, reduceLeDiff, reduceLT, reduceEqDiff, reduceNeg, Nat.reduceBEq]; done))) | (refine c_ctrE (fu) ?_ ?_; (focus (simp -implicitDefEqProofs (disch := omega) only [List.flatMap_cons, List.flatMap_nil, List.append_nil, List.length_cons, List.length_nil, rep1t, List.flatten_cons, List.flatten_nil, e2, decide_true, avs, avb, avi, avo, sigCells, opCells, pairCells, elT, avt, termCells_eq, go_sem, ↓reduceIte, reduceAdd, reduceSub, reduceMul, reduceLeDiff, reduceLT, reduceEqDiff, reduceNeg, Nat.reduceBEq]; done))) | (refine c_ctrE (ctr328) ?_ ?_; (focus (simp -implicitDefEqProofs (disch := omega) only [List.flatMap_cons, List.flatMap_nil, List.append_nil, List.length_cons, List.length_nil, rep1t, List.flatten_cons, List.flatten_nil, e2, decide_true, avs, avb, avi, avo, sigCells, opCells, pairCells, elT, avt, termCells_eq, go_sem, ↓reduceIte, reduceAdd, reduceSub, reduceMul, reduceLeDiff, reduceLT, reduceEqDiff, reduceNeg, Nat.reduceBEq]; done)))); simp -implicitDefEqProofs (disch := omega) only [List.flatMap_cons, List.flatMap_nil, List.append_nil, List.length_cons, List.length_nil, rep1t, List.flatten_cons, List.flatten_nil, e2, decide_true, go_sem, ↓reduceIte, reduceAdd, reduceSub, reduceMul, reduceLeDiff, reduceLT, reduceEqDiff, reduceNeg, Nat.reduceBEq]) | refine And.intro (by omega) ?_ | (intro hr; have hc := hr; (try simp only [zda, zdb, zdc, zdd] at hc); simp -implicitDefEqProofs (disch := omega) only [hr, List.flatMap_cons, List.flatMap_nil, List.append_nil, List.length_cons, List.length_nil, rep1t, List.flatten_cons, List.flatten_nil, e2, decide_true, go_sem, ↓reduceIte, reduceAdd, reduceSub, reduceMul, reduceLeDiff, reduceLT, reduceEqDiff, reduceNeg, Nat.reduceBEq]; (try clear hr))))
         all_goals exact fin_eq rfl rfl
       · have c1 := ctr347 t p ht hp
         have c2 := ctr349 t u p ht hu hp
         rcases bool_em (validT nodeB t && validT nodeB u && atOk t p && validT nodeB (withT t p u)) with hw | hw
         · simp only [Bool.and_eq_true] at hw
           obtain ⟨⟨⟨v1, v2⟩, v3⟩, v4⟩ := hw
           have W := withOk_of v1 v2 v3 v4
           have ow := with_ok ht hu v3
           have oo := stop_ok (p := p) ht
           generalize withT t p u = w at W ow
           generalize stopT t p = old at W oo
           have c3 := ctr347 w p ow hp
           have c4 := ctr349 w old p ow oo hp
           have s1 := ctr338 t ht
           have s2 := ctr338 old oo
           have s3 := ctr338 u hu
           have s4 := ctr338 w ow
           rw [W.a1] at c1
           rw [W.a2] at c2
           rw [W.a3] at c3
           rw [W.a4] at c4
           rw [sizeV_ok W.vt] at s1
           rw [sizeV_ok W.vo] at s2
           rw [sizeV_ok W.vu] at s3
           rw [sizeV_ok W.vw] at s4
           have n1 := node_le W.vt
           have n2 := node_le W.vo
           have n3 := node_le W.vu
           have n4 := node_le W.vw
           have n5 := W.sz
           have d1 := ctr264 u u hu hu
           have d2 := ctr264 t t ht ht
           rw [zt rfl] at d1 d2
           have e1 : ((nodesT w : Int) = nodesT t - nodesT old + nodesT u) = True := eq_true (by omega)
           have e2 : (100 < (p.length : Int)) = False := eq_false (by omega)
           (repeat' (first | refine gT ?_ ?_ | refine gF ?_ ?_ | refine gC ?_ ?_ | ((first | (refine c_ctrE (ft) ?_ ?_; (focus (simp -implicitDefEqProofs (disch := omega) only [List.flatMap_cons, List.flatMap_nil, List.append_nil, List.length_cons, List.length_nil, rep1t, List.flatten_cons, List.flatten_nil, resV, numAV, e1, e2, decide_true, decide_false, avs, avb, avi, avo, sigCells, opCells, pairCells, elT, avt, termCells_eq, go_sem, ↓reduceIte, reduceAdd, reduceSub, reduceMul, reduceLeDiff, reduceLT, reduceEqDiff, reduceNeg, Nat.reduceBEq]; done))) | (refine c_ctrE (fu) ?_ ?_; (focus (simp -implicitDefEqProofs (disch := omega) only [List.flatMap_cons, List.flatMap_nil, List.append_nil, List.length_cons, List.length_nil, rep1t, List.flatten_cons, List.flatten_nil, resV, numAV, e1, e2, decide_true, decide_false, avs, avb, avi, avo, sigCells, opCells, pairCells, elT, avt, termCells_eq, go_sem, ↓reduceIte, reduceAdd, reduceSub, reduceMul, reduceLeDiff, reduceLT, reduceEqDiff, reduceNeg, Nat.reduceBEq]; done))) | (refine c_ctrE (c1) ?_ ?_; (focus (simp -implicitDefEqProofs (disch := omega) only [List.flatMap_cons, List.flatMap_nil, List.append_nil, List.length_cons, List.length_nil, rep1t, List.flatten_cons, List.flatten_nil, resV, numAV, e1, e2, decide_true, decide_false, avs, avb, avi, avo, sigCells, opCells, pairCells, elT, avt, termCells_eq, go_sem, ↓reduceIte, reduceAdd, reduceSub, reduceMul, reduceLeDiff, reduceLT, reduceEqDiff, reduceNeg, Nat.reduceBEq]; done))) | (refine c_ctrE (c2) ?_ ?_; (focus (simp -implicitDefEqProofs (disch := omega) only [List.flatMap_cons, List.flatMap_nil, List.append_nil, List.length_cons, List.length_nil, rep1t, List.flatten_cons, List.flatten_nil, resV, numAV, e1, e2, decide_true, decide_false, avs, avb, avi, avo, sigCells, opCells, pairCells, elT, avt, termCells_eq, go_sem, ↓reduceIte, reduceAdd, reduceSub, reduceMul, reduceLeDiff, reduceLT, reduceEqDiff, reduceNeg, Nat.reduceBEq]; done))) | (refine c_ctrE (c3) ?_ ?_; (focus (simp -implicitDefEqProofs (disch := omega) only [List.flatMap_cons, List.flatMap_nil, List.append_nil, List.length_cons, List.length_nil, rep1t, List.flatten_cons, List.flatten_nil, resV, numAV, e1, e2, decide_true, decide_false, avs, avb, avi, avo, sigCells, opCells, pairCells, elT, avt, termCells_eq, go_sem, ↓reduceIte, reduceAdd, reduceSub, reduceMul, reduceLeDiff, reduceLT, reduceEqDiff, reduceNeg, Nat.reduceBEq]; done))) | (refine c_ctrE (c4) ?_ ?_; (focus (simp -implicitDefEqProofs (disch := omega) only [List.flatMap_cons, List.flatMap_nil, List.append_nil, List.length_cons, List.length_nil, rep1t, List.flatten_cons, List.flatten_nil, resV, numAV, e1, e2, decide_true, decide_false, avs, avb, avi, avo, sigCells, opCells, pairCells, elT, avt, termCells_eq, go_sem, ↓reduceIte, reduceAdd, reduceSub, reduceMul, reduceLeDiff, reduceLT, reduceEqDiff, reduceNeg, Nat.reduceBEq]; done))) | (refine c_ctrE (s1) ?_ ?_; (focus (simp -implicitDefEqProofs (disch := omega) only [List.flatMap_cons, List.flatMap_nil, List.append_nil, List.length_cons, List.length_nil, rep1t, List.flatten_cons, List.flatten_nil, resV, numAV, e1, e2, decide_true, decide_false, avs, avb, avi, avo, sigCells, opCells, pairCells, elT, avt, termCells_eq, go_sem, ↓reduceIte, reduceAdd, reduceSub, reduceMul, reduceLeDiff, reduceLT, reduceEqDiff, reduceNeg, Nat.reduceBEq]; done))) | (refine c_ctrE (s2) ?_ ?_; (focus (simp -implicitDefEqProofs (disch := omega) only [List.flatMap_cons, List.flatMap_nil, List.append_nil, List.length_cons, List.length_nil, rep1t, List.flatten_cons, List.flatten_nil, resV, numAV, e1, e2, decide_true, decide_false, avs, avb, avi, avo, sigCells, opCells, pairCells, elT, avt, termCells_eq, go_sem, ↓reduceIte, reduceAdd, reduceSub, reduceMul, reduceLeDiff, reduceLT, reduceEqDiff, reduceNeg, Nat.reduceBEq]; done))) | (refine c_ctrE (s3) ?_ ?_; (focus (simp -implicitDefEqProofs (disch := omega) only [List.flatMap_cons, List.flatMap_nil, List.append_nil, List.length_cons, List.length_nil, rep1t, List.flatten_cons, List.flatten_nil, resV, numAV, e1, e2, decide_true, decide_false, avs, avb, avi, avo, sigCells, opCells, pairCells, elT, avt, termCells_eq, go_sem, ↓reduceIte, reduceAdd, reduceSub, reduceMul, reduceLeDiff, reduceLT, reduceEqDiff, reduceNeg, Nat.reduceBEq]; done))) | (refine c_ctrE (s4) ?_ ?_; (focus (simp -implicitDefEqProofs (disch := omega) only [List.flatMap_cons, List.flatMap_nil, List.append_nil, List.length_cons, List.length_nil, rep1t, List.flatten_cons, List.flatten_nil, resV, numAV, e1, e2, decide_true, decide_false, avs, avb, avi, avo, sigCells, opCells, pairCells, elT, avt, termCells_eq, go_sem, ↓reduceIte, reduceAdd, reduceSub, reduceMul, reduceLeDiff, reduceLT, reduceEqDiff, reduceNeg, Nat.reduceBEq]; done))) | (refine c_ctrE (d1) ?_ ?_; (focus (simp -implicitDefEqProofs (disch := omega) only [List.flatMap_cons, List.flatMap_nil, List.append_nil, List.length_cons, List.length_nil, rep1t, List.flatten_cons, List.flatten_nil, resV, numAV, e1, e2, decide_true, decide_false, avs, avb, avi, avo, sigCells, opCells, pairCells, elT, avt, termCells_eq, go_sem, ↓reduceIte, reduceAdd, reduceSub, reduceMul, reduceLeDiff, reduceLT, reduceEqDiff, reduceNeg, Nat.reduceBEq]; done))) | (refine c_ctrE (d2) ?_ ?_; (focus (simp -implicitDefEqProofs (disch := omega) only [List.flatMap_cons, List.flatMap_nil, List.append_nil, List.length_cons, List.length_nil, rep1t, List.flatten_cons, List.flatten_nil, resV, numAV, e1, e2, decide_true, decide_false, avs, avb, avi, avo, sigCells, opCells, pairCells, elT, avt, termCells_eq, go_sem, ↓reduceIte, reduceAdd, reduceSub, reduceMul, reduceLeDiff, reduceLT, reduceEqDiff, reduceNeg, Nat.reduceBEq]; done))) | (refine c_ctrE (ctr328) ?_ ?_; (focus (simp -implicitDefEqProofs (disch := omega) only [List.flatMap_cons, List.flatMap_nil, List.append_nil, List.length_cons, List.length_nil, rep1t, List.flatten_cons, List.flatten_nil, resV, numAV, e1, e2, decide_true, decide_false, avs, avb, avi, avo, sigCells, opCells, pairCells, elT, avt, termCells_eq, go_sem, ↓reduceIte, reduceAdd, reduceSub, reduceMul, reduceLeDiff, reduceLT, reduceEqDiff, reduceNeg, Nat.reduceBEq]; done)))); simp -implicitDefEqProofs (disch := omega) only [List.flatMap_cons, List.flatMap_nil, List.append_nil, List.length_cons, List.length_nil, rep1t, List.flatten_cons, List.flatten_nil, resV, numAV, e1, e2, decide_true, decide_false, go_sem, ↓reduceIte, reduceAdd, reduceSub, reduceMul, reduceLeDiff, reduceLT, reduceEqDiff, reduceNeg, Nat.reduceBEq]) | refine And.intro (by omega) ?_ | (intro hr; have hc := hr; (try simp only [zda, zdb, zdc, zdd] at hc); simp -implicitDefEqProofs (disch := omega) only [hr, List.flatMap_cons, List.flatMap_nil, List.append_nil, List.length_cons, List.length_nil, rep1t, List.flatten_cons, List.flatten_nil, resV, numAV, e1, e2, decide_true, decide_false, go_sem, ↓reduceIte, reduceAdd, reduceSub, reduceMul, reduceLeDiff, reduceLT, reduceEqDiff, reduceNeg, Nat.reduceBEq]; (try clear hr))))
           all_goals exact fin_eq rfl rfl
         · obtain ⟨x, e, y, f, e1, e2, e3⟩ := with_bad hw
           rw [e1] at c1
           rw [e2] at c2
           have e4 : (100 < (p.length : Int)) = False := eq_false (by omega)
           rcases e3 with ⟨rfl, e5⟩ | ⟨e5, rfl⟩ | ⟨e5, rfl⟩
           · (repeat' (first | refine gT ?_ ?_ | refine gF ?_ ?_ | refine gC ?_ ?_ | ((first | (refine c_ctrE (ft) ?_ ?_; (focus (simp -implicitDefEqProofs (disch := omega) only [List.flatMap_cons, List.flatMap_nil, List.append_nil, List.length_cons, List.length_nil, rep1t, List.flatten_cons, List.flatten_nil, resV, e4, e5, eq_self, decide_true, decide_false, avs, avb, avi, avo, sigCells, opCells, pairCells, elT, avt, termCells_eq, go_sem, ↓reduceIte, reduceAdd, reduceSub, reduceMul, reduceLeDiff, reduceLT, reduceEqDiff, reduceNeg, Nat.reduceBEq]; done))) | (refine c_ctrE (fu) ?_ ?_; (focus (simp -implicitDefEqProofs (disch := omega) only [List.flatMap_cons, List.flatMap_nil, List.append_nil, List.length_cons, List.length_nil, rep1t, List.flatten_cons, List.flatten_nil, resV, e4, e5, eq_self, decide_true, decide_false, avs, avb, avi, avo, sigCells, opCells, pairCells, elT, avt, termCells_eq, go_sem, ↓reduceIte, reduceAdd, reduceSub, reduceMul, reduceLeDiff, reduceLT, reduceEqDiff, reduceNeg, Nat.reduceBEq]; done))) | (refine c_ctrE (c1) ?_ ?_; (focus (simp -implicitDefEqProofs (disch := omega) only [List.flatMap_cons, List.flatMap_nil, List.append_nil, List.length_cons, List.length_nil, rep1t, List.flatten_cons, List.flatten_nil, resV, e4, e5, eq_self, decide_true, decide_false, avs, avb, avi, avo, sigCells, opCells, pairCells, elT, avt, termCells_eq, go_sem, ↓reduceIte, reduceAdd, reduceSub, reduceMul, reduceLeDiff, reduceLT, reduceEqDiff, reduceNeg, Nat.reduceBEq]; done))) | (refine c_ctrE (c2) ?_ ?_; (focus (simp -implicitDefEqProofs (disch := omega) only [List.flatMap_cons, List.flatMap_nil, List.append_nil, List.length_cons, List.length_nil, rep1t, List.flatten_cons, List.flatten_nil, resV, e4, e5, eq_self, decide_true, decide_false, avs, avb, avi, avo, sigCells, opCells, pairCells, elT, avt, termCells_eq, go_sem, ↓reduceIte, reduceAdd, reduceSub, reduceMul, reduceLeDiff, reduceLT, reduceEqDiff, reduceNeg, Nat.reduceBEq]; done))) | (refine c_ctrE (ctr328) ?_ ?_; (focus (simp -implicitDefEqProofs (disch := omega) only [List.flatMap_cons, List.flatMap_nil, List.append_nil, List.length_cons, List.length_nil, rep1t, List.flatten_cons, List.flatten_nil, resV, e4, e5, eq_self, decide_true, decide_false, avs, avb, avi, avo, sigCells, opCells, pairCells, elT, avt, termCells_eq, go_sem, ↓reduceIte, reduceAdd, reduceSub, reduceMul, reduceLeDiff, reduceLT, reduceEqDiff, reduceNeg, Nat.reduceBEq]; done)))); simp -implicitDefEqProofs (disch := omega) only [List.flatMap_cons, List.flatMap_nil, List.append_nil, List.length_cons, List.length_nil, rep1t, List.flatten_cons, List.flatten_nil, resV, e4, e5, eq_self, decide_true, decide_false, go_sem, ↓reduceIte, reduceAdd, reduceSub, reduceMul, reduceLeDiff, reduceLT, reduceEqDiff, reduceNeg, Nat.reduceBEq]) | refine And.intro (by omega) ?_ | (intro hr; have hc := hr; (try simp only [zda, zdb, zdc, zdd] at hc); simp -implicitDefEqProofs (disch := omega) only [hr, List.flatMap_cons, List.flatMap_nil, List.append_nil, List.length_cons, List.length_nil, rep1t, List.flatten_cons, List.flatten_nil, resV, e4, e5, eq_self, decide_true, decide_false, go_sem, ↓reduceIte, reduceAdd, reduceSub, reduceMul, reduceLeDiff, reduceLT, reduceEqDiff, reduceNeg, Nat.reduceBEq]; (try clear hr))))
             all_goals exact fin_eq rfl rfl
           · (repeat' (first | refine gT ?_ ?_ | refine gF ?_ ?_ | refine gC ?_ ?_ | ((first | (refine c_ctrE (ft) ?_ ?_; (focus (simp -implicitDefEqProofs (disch := omega) only [List.flatMap_cons, List.flatMap_nil, List.append_nil, List.length_cons, List.length_nil, rep1t, List.flatten_cons, List.flatten_nil, resV, e4, e5, eq_self, decide_true, decide_false, avs, avb, avi, avo, sigCells, opCells, pairCells, elT, avt, termCells_eq, go_sem, ↓reduceIte, reduceAdd, reduceSub, reduceMul, reduceLeDiff, reduceLT, reduceEqDiff, reduceNeg, Nat.reduceBEq]; done))) | (refine c_ctrE (fu) ?_ ?_; (focus (simp -implicitDefEqProofs (disch := omega) only [List.flatMap_cons, List.flatMap_nil, List.append_nil, List.length_cons, List.length_nil, rep1t, List.flatten_cons, List.flatten_nil, resV, e4, e5, eq_self, decide_true, decide_false, avs, avb, avi, avo, sigCells, opCells, pairCells, elT, avt, termCells_eq, go_sem, ↓reduceIte, reduceAdd, reduceSub, reduceMul, reduceLeDiff, reduceLT, reduceEqDiff, reduceNeg, Nat.reduceBEq]; done))) | (refine c_ctrE (c1) ?_ ?_; (focus (simp -implicitDefEqProofs (disch := omega) only [List.flatMap_cons, List.flatMap_nil, List.append_nil, List.length_cons, List.length_nil, rep1t, List.flatten_cons, List.flatten_nil, resV, e4, e5, eq_self, decide_true, decide_false, avs, avb, avi, avo, sigCells, opCells, pairCells, elT, avt, termCells_eq, go_sem, ↓reduceIte, reduceAdd, reduceSub, reduceMul, reduceLeDiff, reduceLT, reduceEqDiff, reduceNeg, Nat.reduceBEq]; done))) | (refine c_ctrE (c2) ?_ ?_; (focus (simp -implicitDefEqProofs (disch := omega) only [List.flatMap_cons, List.flatMap_nil, List.append_nil, List.length_cons, List.length_nil, rep1t, List.flatten_cons, List.flatten_nil, resV, e4, e5, eq_self, decide_true, decide_false, avs, avb, avi, avo, sigCells, opCells, pairCells, elT, avt, termCells_eq, go_sem, ↓reduceIte, reduceAdd, reduceSub, reduceMul, reduceLeDiff, reduceLT, reduceEqDiff, reduceNeg, Nat.reduceBEq]; done))) | (refine c_ctrE (ctr328) ?_ ?_; (focus (simp -implicitDefEqProofs (disch := omega) only [List.flatMap_cons, List.flatMap_nil, List.append_nil, List.length_cons, List.length_nil, rep1t, List.flatten_cons, List.flatten_nil, resV, e4, e5, eq_self, decide_true, decide_false, avs, avb, avi, avo, sigCells, opCells, pairCells, elT, avt, termCells_eq, go_sem, ↓reduceIte, reduceAdd, reduceSub, reduceMul, reduceLeDiff, reduceLT, reduceEqDiff, reduceNeg, Nat.reduceBEq]; done)))); simp -implicitDefEqProofs (disch := omega) only [List.flatMap_cons, List.flatMap_nil, List.append_nil, List.length_cons, List.length_nil, rep1t, List.flatten_cons, List.flatten_nil, resV, e4, e5, eq_self, decide_true, decide_false, go_sem, ↓reduceIte, reduceAdd, reduceSub, reduceMul, reduceLeDiff, reduceLT, reduceEqDiff, reduceNeg, Nat.reduceBEq]) | refine And.intro (by omega) ?_ | (intro hr; have hc := hr; (try simp only [zda, zdb, zdc, zdd] at hc); simp -implicitDefEqProofs (disch := omega) only [hr, List.flatMap_cons, List.flatMap_nil, List.append_nil, List.length_cons, List.length_nil, rep1t, List.flatten_cons, List.flatten_nil, resV, e4, e5, eq_self, decide_true, decide_false, go_sem, ↓reduceIte, reduceAdd, reduceSub, reduceMul, reduceLeDiff, reduceLT, reduceEqDiff, reduceNeg, Nat.reduceBEq]; (try clear hr))))
             all_goals exact fin_eq rfl rfl
           · (repeat' (first | refine gT ?_ ?_ | refine gF ?_ ?_ | refine gC ?_ ?_ | ((first | (refine c_ctrE (ft) ?_ ?_; (focus (simp -implicitDefEqProofs (disch := omega) only [List.flatMap_cons, List.flatMap_nil, List.append_nil, List.length_cons, List.length_nil, rep1t, List.flatten_cons, List.flatten_nil, resV, e4, e5, eq_self, decide_true, decide_false, avs, avb, avi, avo, sigCells, opCells, pairCells, elT, avt, termCells_eq, go_sem, ↓reduceIte, reduceAdd, reduceSub, reduceMul, reduceLeDiff, reduceLT, reduceEqDiff, reduceNeg, Nat.reduceBEq]; done))) | (refine c_ctrE (fu) ?_ ?_; (focus (simp -implicitDefEqProofs (disch := omega) only [List.flatMap_cons, List.flatMap_nil, List.append_nil, List.length_cons, List.length_nil, rep1t, List.flatten_cons, List.flatten_nil, resV, e4, e5, eq_self, decide_true, decide_false, avs, avb, avi, avo, sigCells, opCells, pairCells, elT, avt, termCells_eq, go_sem, ↓reduceIte, reduceAdd, reduceSub, reduceMul, reduceLeDiff, reduceLT, reduceEqDiff, reduceNeg, Nat.reduceBEq]; done))) | (refine c_ctrE (c1) ?_ ?_; (focus (simp -implicitDefEqProofs (disch := omega) only [List.flatMap_cons, List.flatMap_nil, List.append_nil, List.length_cons, List.length_nil, rep1t, List.flatten_cons, List.flatten_nil, resV, e4, e5, eq_self, decide_true, decide_false, avs, avb, avi, avo, sigCells, opCells, pairCells, elT, avt, termCells_eq, go_sem, ↓reduceIte, reduceAdd, reduceSub, reduceMul, reduceLeDiff, reduceLT, reduceEqDiff, reduceNeg, Nat.reduceBEq]; done))) | (refine c_ctrE (c2) ?_ ?_; (focus (simp -implicitDefEqProofs (disch := omega) only [List.flatMap_cons, List.flatMap_nil, List.append_nil, List.length_cons, List.length_nil, rep1t, List.flatten_cons, List.flatten_nil, resV, e4, e5, eq_self, decide_true, decide_false, avs, avb, avi, avo, sigCells, opCells, pairCells, elT, avt, termCells_eq, go_sem, ↓reduceIte, reduceAdd, reduceSub, reduceMul, reduceLeDiff, reduceLT, reduceEqDiff, reduceNeg, Nat.reduceBEq]; done))) | (refine c_ctrE (ctr328) ?_ ?_; (focus (simp -implicitDefEqProofs (disch := omega) only [List.flatMap_cons, List.flatMap_nil, List.append_nil, List.length_cons, List.length_nil, rep1t, List.flatten_cons, List.flatten_nil, resV, e4, e5, eq_self, decide_true, decide_false, avs, avb, avi, avo, sigCells, opCells, pairCells, elT, avt, termCells_eq, go_sem, ↓reduceIte, reduceAdd, reduceSub, reduceMul, reduceLeDiff, reduceLT, reduceEqDiff, reduceNeg, Nat.reduceBEq]; done)))); simp -implicitDefEqProofs (disch := omega) only [List.flatMap_cons, List.flatMap_nil, List.append_nil, List.length_cons, List.length_nil, rep1t, List.flatten_cons, List.flatten_nil, resV, e4, e5, eq_self, decide_true, decide_false, go_sem, ↓reduceIte, reduceAdd, reduceSub, reduceMul, reduceLeDiff, reduceLT, reduceEqDiff, reduceNeg, Nat.reduceBEq]) | refine And.intro (by omega) ?_ | (intro hr; have hc := hr; (try simp only [zda, zdb, zdc, zdd] at hc); simp -implicitDefEqProofs (disch := omega) only [hr, List.flatMap_cons, List.flatMap_nil, List.append_nil, List.length_cons, List.length_nil, rep1t, List.flatten_cons, List.flatten_nil, resV, e4, e5, eq_self, decide_true, decide_false, go_sem, ↓reduceIte, reduceAdd, reduceSub, reduceMul, reduceLeDiff, reduceLT, reduceEqDiff, reduceNeg, Nat.reduceBEq]; (try clear hr))))
             all_goals exact fin_eq rfl rfl
     · rw [h2] at fu
       (repeat' (first | refine gT ?_ ?_ | refine gF ?_ ?_ | refine gC ?_ ?_ | ((first | (refine c_ctrE (ft) ?_ ?_; (focus (simp -implicitDefEqProofs (disch := omega) only [List.flatMap_cons, List.flatMap_nil, List.append_nil, List.length_cons, List.length_nil, rep1t, List.flatten_cons, List.flatten_nil, avs, avb, avi, avo, sigCells, opCells, pairCells, elT, avt, termCells_eq, go_sem, ↓reduceIte, reduceAdd, reduceSub, reduceMul, reduceLeDiff, reduceLT, reduceEqDiff, reduceNeg, Nat.reduceBEq]; done))) | (refine c_ctrE (fu) ?_ ?_; (focus (simp -implicitDefEqProofs (disch := omega) only [List.flatMap_cons, List.flatMap_nil, List.append_nil, List.length_cons, List.length_nil, rep1t, List.flatten_cons, List.flatten_nil, avs, avb, avi, avo, sigCells, opCells, pairCells, elT, avt, termCells_eq, go_sem, ↓reduceIte, reduceAdd, reduceSub, reduceMul, reduceLeDiff, reduceLT, reduceEqDiff, reduceNeg, Nat.reduceBEq]; done))) | (refine c_ctrE (ctr328) ?_ ?_; (focus (simp -implicitDefEqProofs (disch := omega) only [List.flatMap_cons, List.flatMap_nil, List.append_nil, List.length_cons, List.length_nil, rep1t, List.flatten_cons, List.flatten_nil, avs, avb, avi, avo, sigCells, opCells, pairCells, elT, avt, termCells_eq, go_sem, ↓reduceIte, reduceAdd, reduceSub, reduceMul, reduceLeDiff, reduceLT, reduceEqDiff, reduceNeg, Nat.reduceBEq]; done)))); simp -implicitDefEqProofs (disch := omega) only [List.flatMap_cons, List.flatMap_nil, List.append_nil, List.length_cons, List.length_nil, rep1t, List.flatten_cons, List.flatten_nil, go_sem, ↓reduceIte, reduceAdd, reduceSub, reduceMul, reduceLeDiff, reduceLT, reduceEqDiff, reduceNeg, Nat.reduceBEq]) | refine And.intro (by omega) ?_ | (intro hr; have hc := hr; (try simp only [zda, zdb, zdc, zdd] at hc); simp -implicitDefEqProofs (disch := omega) only [hr, List.flatMap_cons, List.flatMap_nil, List.append_nil, List.length_cons, List.length_nil, rep1t, List.flatten_cons, List.flatten_nil, go_sem, ↓reduceIte, reduceAdd, reduceSub, reduceMul, reduceLeDiff, reduceLT, reduceEqDiff, reduceNeg, Nat.reduceBEq]; (try clear hr))))
       all_goals exact fin_eq rfl rfl
   · rw [h1] at ft
     (repeat' (first | refine gT ?_ ?_ | refine gF ?_ ?_ | refine gC ?_ ?_ | ((first | (refine c_ctrE (ft) ?_ ?_; (focus (simp -implicitDefEqProofs (disch := omega) only [List.flatMap_cons, List.flatMap_nil, List.append_nil, List.length_cons, List.length_nil, rep1t, List.flatten_cons, List.flatten_nil, avs, avb, avi, avo, sigCells, opCells, pairCells, elT, avt, termCells_eq, go_sem, ↓reduceIte, reduceAdd, reduceSub, reduceMul, reduceLeDiff, reduceLT, reduceEqDiff, reduceNeg, Nat.reduceBEq]; done))) | (refine c_ctrE (ctr328) ?_ ?_; (focus (simp -implicitDefEqProofs (disch := omega) only [List.flatMap_cons, List.flatMap_nil, List.append_nil, List.length_cons, List.length_nil, rep1t, List.flatten_cons, List.flatten_nil, avs, avb, avi, avo, sigCells, opCells, pairCells, elT, avt, termCells_eq, go_sem, ↓reduceIte, reduceAdd, reduceSub, reduceMul, reduceLeDiff, reduceLT, reduceEqDiff, reduceNeg, Nat.reduceBEq]; done)))); simp -implicitDefEqProofs (disch := omega) only [List.flatMap_cons, List.flatMap_nil, List.append_nil, List.length_cons, List.length_nil, rep1t, List.flatten_cons, List.flatten_nil, go_sem, ↓reduceIte, reduceAdd, reduceSub, reduceMul, reduceLeDiff, reduceLT, reduceEqDiff, reduceNeg, Nat.reduceBEq]) | refine And.intro (by omega) ?_ | (intro hr; have hc := hr; (try simp only [zda, zdb, zdc, zdd] at hc); simp -implicitDefEqProofs (disch := omega) only [hr, List.flatMap_cons, List.flatMap_nil, List.append_nil, List.length_cons, List.length_nil, rep1t, List.flatten_cons, List.flatten_nil, go_sem, ↓reduceIte, reduceAdd, reduceSub, reduceMul, reduceLeDiff, reduceLT, reduceEqDiff, reduceNeg, Nat.reduceBEq]; (try clear hr))))
     all_goals exact fin_eq rfl rfl
end Go.Proofs.YtnjnjdebgkjfhaaGreatDoor
