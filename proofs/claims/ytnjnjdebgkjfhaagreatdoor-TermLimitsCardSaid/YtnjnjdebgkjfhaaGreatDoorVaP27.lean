/-
  What functions of the chapter return, as plain functions of what they are given; no condition beyond those that each theorem names.
-/
import Derived.Test.YtnjnjdebgkjfhaaGreatDoorTeP27
import Derived.Test.YtnjnjdebgkjfhaaGreatDoorTeP24
set_option maxRecDepth 100000
set_option linter.unusedSimpArgs false
set_option linter.unusedVariables false
set_option maxHeartbeats 4000000
namespace Go.Proofs.YtnjnjdebgkjfhaaGreatDoor
open Go Go.Vo
open Nat (reduceAdd reduceSub reduceMul reduceLeDiff reduceLT reduceEqDiff)
open Int (reduceNeg)

mutual
def vis : LTerm → Int → List (LTerm × Int)
 | .mk k n x s ks rs, d => (.mk k n x s ks rs, d) :: (visL ks (d + 1) ++ visL rs (d + 1))
def visL : List LTerm → Int → List (LTerm × Int)
 | [], _ => []
 | t :: l, d => vis t d ++ visL l d
end
theorem visL_append : ∀ {l m : List LTerm} {d : Int}, visL (l ++ m) d = visL l d ++ visL m d
 | [], m, d => rfl
 | t :: l, m, d => by rw [List.cons_append, visL, visL, visL_append, List.append_assoc]
theorem vis_eq (t : LTerm) (d : Int) : vis t d = (t, d) :: visL (t.kids ++ t.rest) (d + 1) := by cases t; rw [vis, visL_append]; rfl
theorem visL_at {l : List LTerm} {k : Nat} {d : Int} (h : k < l.length) : visL (l.drop k) d = vis (l.getD k default) d ++ visL (l.drop (k + 1)) d := by
 rw [List.drop_eq_getElem_cons h, visL]; simp [List.getD, h]
def visR {α : Type} (φ : LTerm × Int → α → α) (a : α) (l : List (LTerm × Int)) : α := l.foldl (fun a v => φ v a) a
theorem visR_append {α : Type} {φ : LTerm × Int → α → α} {a : α} {l m : List (LTerm × Int)} : visR φ a (l ++ m) = visR φ (visR φ a l) m := by simp [visR, List.foldl_append]
abbrev WalkK {α : Type} (enc : α → List AV) (b : α) : AV → List AObj → Prop := fun r h' => r = .tup [] ∧ ∃ g, h' = .box false (enc b) :: g
theorem ite_box {c : Bool} {a : AObj} {x y : List AObj} : ∃ g, (if c = true then a :: x else a :: y) = a :: g := by split <;> exact ⟨_, rfl⟩
structure Vis {α : Type} (F : FuncId) (enc : α → List AV) (φ : LTerm × Int → α → α) (P : α → List (LTerm × Int) → Prop) : Prop where
 ok : ∀ a v l, P a (v :: l) → OkT v.1 → (0 ≤ v.2 ∧ v.2 ≤ 1000 ∧ v.1.kids.length + v.1.rest.length ≤ 1000000) ∧ P (φ v a) l ∧ ACalls Tryz.prog G0 F [elT v.1, .i .i64 v.2, .ptr 0 0] [.box false (enc a)] (WalkK enc (φ v a))
 pe : ∀ a, persL (enc a) = true
theorem Vis.all {α : Type} {F : FuncId} {enc : α → List AV} {φ : LTerm × Int → α → α} {P : α → List (LTerm × Int) → Prop} (V : Vis F enc φ P) {m : List (LTerm × Int)} : ∀ {l : List (LTerm × Int)} {a : α}, P a (l ++ m) → (∀ v ∈ l, OkT v.1) → P (visR φ a l) m
 | [], a, h, _ => h
 | v :: l, a, h, ho => V.all (l := l) (V.ok a v _ h (ho v (by simp))).2.1 (fun x hx => ho x (by simp [hx]))
theorem vis_ok : ∀ (t : LTerm), OkT t → ∀ (d : Int), ∀ v ∈ vis t d, OkT v.1 :=
 term_ind fun t hk hr ht d v hv => by
   have L : ∀ (l : List LTerm), (∀ x ∈ l, OkT x ∧ ∀ (d : Int), ∀ v ∈ vis x d, OkT v.1) → ∀ v ∈ visL l (d + 1), OkT v.1 := by
     intro l
     induction l with
     | nil => intro _ v hv; simp [visL] at hv
     | cons x l ih =>
       intro h v hv
       rw [visL, List.mem_append] at hv
       rcases hv with hv | hv
       · exact (h x (by simp)).2 _ v hv
       · exact ih (fun y hy => h y (by simp [hy])) v hv
   rw [vis_eq, List.mem_cons] at hv
   rcases hv with rfl | hv
   · exact ht
   · refine L _ (fun x hx => ?_) v hv
     rcases List.mem_append.1 hx with hx | hx
     · exact ⟨ht.kid x hx, hk x hx (ht.kid x hx)⟩
     · exact ⟨ht.rst x hx, hr x hx (ht.rst x hx)⟩
theorem walk1 {α : Type} {F : FuncId} {enc : α → List AV} {φ : LTerm × Int → α → α} {P : α → List (LTerm × Int) → Prop} (V : Vis F enc φ P) (t : LTerm) (d : Int) (a : α) (l : List (LTerm × Int)) (ht : OkT t) (hP : P a (vis t d ++ l)) (ih : ∀ k ∈ t.kids ++ t.rest, ∀ (d : Int) (a : α) (l : List (LTerm × Int)), P a (vis k d ++ l) → ACalls Tryz.prog G0 68 [elT k, .i .i64 d, .fn F [] [.ptr 0 0]] [.box false (enc a)] (WalkK enc (visR φ a (vis k d)))): ACalls Tryz.prog G0 68 [elT t, .i .i64 d, .fn F [] [.ptr 0 0]] [.box false (enc a)] (WalkK enc (visR φ a (vis t d))) := by
 refine acalls_intro (rx := false) (th := fun _ => none) mixed Tryz.func68 rfl (by kernel_rfl) (by kernel_rfl) (ac := ?_) ?_ ?_
 rotate_left
 · simp only [strip, splitQ, stripOps, stripOp, hoist, List.filter_cons, List.filter_nil, List.nil_append, List.cons_append, isFree, anyPre, Region.binds, Bool.not_true, Bool.not_false, Bool.false_eq_true, if_true, if_false, Option.isNone_none, Option.isNone_some, Bool.true_and, Bool.false_and, List.map_nil, List.map_cons, List.isEmpty_nil, List.isEmpty_cons, List.append_nil]
   rfl
 · simp -implicitDefEqProofs (disch := omega) only [Tryz.f68, go_sem, List.replicate, ↓reduceIte, reduceAdd, reduceSub, reduceMul, reduceLeDiff, reduceLT, reduceEqDiff, reduceNeg, Nat.reduceBEq]
   rw [vis_eq, List.cons_append] at hP
   obtain ⟨⟨hd0, hd, hlen⟩, hP2, hc⟩ := V.ok a (t, d) _ hP ht
   dsimp only at hd0 hd hlen hP2 hc
   have hr : visR φ a (vis t d) = visR φ (φ (t, d) a) (visL (t.kids ++ t.rest) (d + 1)) := by rw [vis_eq]; rfl
   rw [hr]
   have hoL : ∀ x ∈ t.kids ++ t.rest, OkT x := fun x hx => by
     rcases List.mem_append.1 hx with hx | hx
     · exact ht.kid x hx
     · exact ht.rst x hx
   have c : CT 131 [.sl [avt t.kids, avt t.rest] 2] (avt (t.kids ++ t.rest)) := by
     have := ctr268 [t.kids, t.rest] (by simp) (by simp [sumT]; omega)
     simpa using this
   have hLl : (t.kids ++ t.rest).length ≤ 1000000 := by rw [List.length_append]; exact hlen
   generalize t.kids ++ t.rest = L at *
   (repeat' (first | refine gT ?_ ?_ | refine gF ?_ ?_ | refine gC ?_ ?_ | refine And.intro (by omega) ?_ | (intro hr; have hc := hr; (try simp only [zda, zdb, zdc, zdd] at hc); simp -implicitDefEqProofs (disch := omega) only [hr, go_sem, ↓reduceIte, reduceAdd, reduceSub, reduceMul, reduceLeDiff, reduceLT, reduceEqDiff, reduceNeg, Nat.reduceBEq]; (try clear hr))))
   refine c_box 0 g0 hc (V.pe _) (V.pe _) rfl rfl ?_ ?_
   · simp only [renL, ren, elT, termCells_eq, avt, renL_pers _ _ persTs, emb_0]
   · intro g2
     simp -implicitDefEqProofs (disch := omega) only [go_sem, ↓reduceIte, reduceAdd, reduceSub, reduceMul, reduceLeDiff, reduceLT, reduceEqDiff, reduceNeg, Nat.reduceBEq]
     (repeat' (first | refine gT ?_ ?_ | refine gF ?_ ?_ | refine gC ?_ ?_ | ((refine c_ctrE (c) ?_ ?_; (focus (simp -implicitDefEqProofs (disch := omega) only [avs, avb, avi, avo, sigCells, opCells, pairCells, elT, avt, termCells_eq, go_sem, ↓reduceIte, reduceAdd, reduceSub, reduceMul, reduceLeDiff, reduceLT, reduceEqDiff, reduceNeg, Nat.reduceBEq]; done))); simp -implicitDefEqProofs (disch := omega) only [go_sem, ↓reduceIte, reduceAdd, reduceSub, reduceMul, reduceLeDiff, reduceLT, reduceEqDiff, reduceNeg, Nat.reduceBEq]) | refine And.intro (by omega) ?_ | (intro hr; have hc := hr; (try simp only [zda, zdb, zdc, zdd] at hc); simp -implicitDefEqProofs (disch := omega) only [hr, go_sem, ↓reduceIte, reduceAdd, reduceSub, reduceMul, reduceLeDiff, reduceLT, reduceEqDiff, reduceNeg, Nat.reduceBEq]; (try clear hr))))
     obtain ⟨g4, hg⟩ := ite_box (c := ((List.flatMap termCells L).isEmpty && L.length == 0)) (a := .box false (enc (φ (t, d) a))) (x := .box false [.i .i64 t.kind, .i .i64 t.n, .s t.text, .s t.sort, .sl (t.kids.flatMap termCells) t.kids.length, .sl (t.rest.flatMap termCells) t.rest.length] :: (g2 ++ [.arr false 1 [.sl (t.kids.flatMap termCells) t.kids.length, .sl (t.rest.flatMap termCells) t.rest.length]])) (y := .box false [.i .i64 t.kind, .i .i64 t.n, .s t.text, .s t.sort, .sl (t.kids.flatMap termCells) t.kids.length, .sl (t.rest.flatMap termCells) t.rest.length] :: (g2 ++ [.arr true 1 [.sl (t.kids.flatMap termCells) t.kids.length, .sl (t.rest.flatMap termCells) t.rest.length]]))
     rw [hg]
     refine x_loopG (fun (s : Nat × α) => [.k, .k, .k, .k, .k, .k, .k, .j, .k, .k, .k, .k, .k, .k, .k, .k, .k, .k, .k, .v (.i .i64 (s.1 : Nat)), .j, .j, .j, .j, .j, .j, .j, .j, .j]) (fun s => [.box false (enc s.2)]) (fun s => s.1 ≤ L.length ∧ P s.2 (visL (L.drop s.1) (d + 1) ++ l) ∧ visR φ (φ (t, d) a) (visL L (d + 1)) = visR φ s.2 (visL (L.drop s.1) (d + 1))) (fun s => L.length - s.1) ((0, φ (t, d) a)) _ ⟨Nat.zero_le _, hP2, rfl⟩ rfl (by simp [Fits]) ?_
     rintro ⟨k, b⟩ g j ⟨hk, hPk, he⟩
     dsimp only at hk hPk he
     simp -implicitDefEqProofs (disch := omega) only [go_sem, ↓reduceIte, reduceAdd, reduceSub, reduceMul, reduceLeDiff, reduceLT, reduceEqDiff, reduceNeg, Nat.reduceBEq]
     (repeat' (first | refine gT ?_ ?_ | refine gF ?_ ?_ | refine gC ?_ ?_ | refine And.intro (by omega) ?_ | (intro hr; have hc := hr; (try simp only [zda, zdb, zdc, zdd] at hc); simp -implicitDefEqProofs (disch := omega) only [hr, go_sem, ↓reduceIte, reduceAdd, reduceSub, reduceMul, reduceLeDiff, reduceLT, reduceEqDiff, reduceNeg, Nat.reduceBEq]; (try clear hr))))
     · have hlt : k < L.length := by omega
       rw [visL_at hlt, List.append_assoc] at hPk
       rw [visL_at hlt, visR_append] at he
       have hm := mem_getD (d := default) hlt
       refine c_box 0 g0 (ih _ hm (d + 1) b _ hPk) (V.pe _) (V.pe _) rfl rfl ?_ ?_
       · simp only [renL, ren, elT, termCells_eq, avt, renL_pers _ _ persTs, emb_0]
       · intro g3
         simp -implicitDefEqProofs (disch := omega) only [go_sem, ↓reduceIte, reduceAdd, reduceSub, reduceMul, reduceLeDiff, reduceLT, reduceEqDiff, reduceNeg, Nat.reduceBEq]
         exact ⟨(k + 1, visR φ b (vis (L.getD k default) (d + 1))), _, ⟨by dsimp only; omega, V.all hPk (vis_ok _ (hoL _ hm) _), he⟩, by dsimp only; omega, rfl, by simp⟩
     · rw [List.drop_of_length_le (by omega)] at he
       rw [he]
       exact ⟨rfl, _, rfl⟩
theorem walk {α : Type} {F : FuncId} {enc : α → List AV} {φ : LTerm × Int → α → α} {P : α → List (LTerm × Int) → Prop} (V : Vis F enc φ P) : ∀ (t : LTerm), OkT t → ∀ (d : Int) (a : α) (l : List (LTerm × Int)), P a (vis t d ++ l) → ACalls Tryz.prog G0 68 [elT t, .i .i64 d, .fn F [] [.ptr 0 0]] [.box false (enc a)] (WalkK enc (visR φ a (vis t d))) :=
 term_ind fun t hk hr ht d a l hP => walk1 V t d a l ht hP fun k hm => by
   rcases List.mem_append.1 hm with hm | hm
   · exact hk k hm (ht.kid k hm)
   · exact hr k hm (ht.rst k hm)

theorem node_rest1 {t : LTerm} (h : nodeB t = true) : t.rest = [] ∨ ∃ r, t.rest = [r] ∧ r.kids = [] ∧ r.rest = [] := by
 have h1 := nodeB_rest t h
 have h2 := node_rest h
 rcases hr : t.rest with _ | ⟨x, _ | ⟨y, l⟩⟩
 · exact .inl rfl
 · rw [hr] at h2
   exact .inr ⟨x, rfl, (h2 x (by simp)).2⟩
 · rw [hr] at h1; simp at h1
theorem vis_leaf {r : LTerm} (h1 : r.kids = []) (h2 : r.rest = []) (d : Int) : vis r d = [(r, d)] := by rw [vis_eq, h1, h2]; rfl
theorem visL_rest {t : LTerm} (h : nodeB t = true) (d : Int) : visL t.rest d = t.rest.map fun r => (r, d) := by
 rcases node_rest1 h with e | ⟨r, e, h1, h2⟩
 · rw [e]; rfl
 · rw [e, visL, vis_leaf h1 h2]; rfl
theorem nodesT_eq (t : LTerm) : nodesT t = 1 + t.rest.length + nodesL t.kids := by cases t; rw [nodesT]; rfl
theorem highT_eq (t : LTerm) : highT t = 1 + max t.rest.length (highL t.kids) := by cases t; rw [highT]; rfl
theorem nodesL_len : ∀ (l : List LTerm), l.length ≤ nodesL l
 | [] => Nat.le_refl _
 | t :: l => by rw [nodesL, List.length_cons, nodesT_eq]; have := nodesL_len l; omega
theorem vis_len : ∀ (t : LTerm), wfT nodeB t = true → ∀ d : Int, (vis t d).length = nodesT t :=
 term_ind fun t hk _ hw d => by
   rw [wfT_eq] at hw
   have L : ∀ (l : List LTerm), (∀ x ∈ l, ∀ d : Int, (vis x d).length = nodesT x) → (visL l (d + 1)).length = nodesL l := by
     intro l
     induction l with
     | nil => intro _; rfl
     | cons x l ih => intro h; rw [visL, nodesL, List.length_append, h x (by simp), ih (fun y hy => h y (by simp [hy]))]
   rw [vis_eq, visL_append, nodesT_eq, List.length_cons, List.length_append, L _ (fun x hx => hk x hx (hw.2 x hx)), visL_rest hw.1, List.length_map]
   omega
structure VisB (t : LTerm) (d : Int) (v : LTerm × Int) : Prop where
 lo : d ≤ v.2
 hi : v.2 + 1 ≤ d + highT t
 len : v.1.kids.length + v.1.rest.length ≤ nodesT t
theorem vis_bnd : ∀ (t : LTerm), wfT nodeB t = true → ∀ d : Int, ∀ v ∈ vis t d, VisB t d v :=
 term_ind fun t hk _ hw d v hv => by
   rw [wfT_eq] at hw
   rw [vis_eq, visL_append, List.mem_cons, List.mem_append, visL_rest hw.1, List.mem_map] at hv
   have hn := nodesT_eq t
   have hh := highT_eq t
   have hl := nodesL_len t.kids
   rcases hv with rfl | hv | ⟨r, hr, rfl⟩
   · exact ⟨Int.le_refl _, by dsimp only; omega, by dsimp only; omega⟩
   · have L : ∀ (l : List LTerm), (∀ x ∈ l, ∀ d : Int, ∀ v ∈ vis x d, VisB x d v) → v ∈ visL l (d + 1) → d + 1 ≤ v.2 ∧ v.2 ≤ d + highL l ∧ v.1.kids.length + v.1.rest.length ≤ nodesL l := by
       intro l
       induction l with
       | nil => intro _ h; simp [visL] at h
       | cons x l ih =>
         intro h hv
         rw [highL, nodesL]
         rw [visL, List.mem_append] at hv
         rcases hv with hv | hv
         · have b := h x (by simp) _ v hv
           have b1 := b.lo
           have b2 := b.hi
           have b3 := b.len
           exact ⟨b1, by omega, by omega⟩
         · have b := ih (fun y hy => h y (by simp [hy])) hv
           omega
     have b := L _ (fun x hx => hk x hx (hw.2 x hx)) hv
     exact ⟨by omega, by omega, by omega⟩
   · have e : t.rest.length = 1 ∧ r.kids = [] ∧ r.rest = [] := by
       rcases node_rest1 hw.1 with e | ⟨r', e, h1, h2⟩
       · rw [e] at hr; cases hr
       · rw [e] at hr; obtain rfl := List.mem_singleton.1 hr; rw [e]; exact ⟨rfl, h1, h2⟩
     refine ⟨by dsimp only; omega, by dsimp only; omega, ?_⟩
     dsimp only
     rw [e.2.1, e.2.2]; simp
def deep (v : LTerm × Int) (a : Int) : Int := if v.2 > a then v.2 else a
theorem vis_deep : ∀ (t : LTerm), wfT nodeB t = true → ∀ d a : Int, visR deep a (vis t d) = max a (d + highT t - 1) :=
 term_ind fun t hk _ hw d a => by
   rw [wfT_eq] at hw
   have L : ∀ (l : List LTerm), (∀ x ∈ l, ∀ d a : Int, visR deep a (vis x d) = max a (d + highT x - 1)) → ∀ a : Int, d ≤ a → visR deep a (visL l (d + 1)) = max a (d + highL l) := by
     intro l
     induction l with
     | nil => intro _ a ha; simp only [visL, visR, List.foldl_nil, highL]; omega
     | cons x l ih =>
       intro h a ha
       rw [visL, visR_append, h x (by simp), ih (fun y hy => h y (by simp [hy])) _ (by omega), highL]
       omega
   have hh := highT_eq t
   have e0 : visR deep a (vis t d) = visR deep (visR deep (max a d) (visL t.kids (d + 1))) (visL t.rest (d + 1)) := by
     rw [vis_eq, visL_append, ← visR_append]
     show visR deep (deep (t, d) a) _ = _
     congr 1
     simp only [deep]; omega
   rw [e0, L _ (fun x hx => hk x hx (hw.2 x hx)) _ (by omega), visL_rest hw.1]
   rcases node_rest1 hw.1 with e | ⟨r, e, h1, h2⟩
   · rw [e] at hh ⊢
     simp only [List.map_nil, visR, List.foldl_nil, List.length_nil] at hh ⊢
     omega
   · rw [e] at hh ⊢
     simp only [List.map_cons, List.map_nil, visR, List.foldl_cons, List.foldl_nil, List.length_cons, List.length_nil, deep] at hh ⊢
     omega
def VisP (a : Int) (l : List (LTerm × Int)) : Prop := (0 ≤ a ∧ a + l.length ≤ 1000000) ∧ ∀ v ∈ l, 0 ≤ v.2 ∧ v.2 ≤ 1000 ∧ v.1.kids.length + v.1.rest.length ≤ 1000000
def VisQ (a : Int) (l : List (LTerm × Int)) : Prop := (0 ≤ a ∧ a ≤ 1000) ∧ ∀ v ∈ l, 0 ≤ v.2 ∧ v.2 ≤ 1000 ∧ v.1.kids.length + v.1.rest.length ≤ 1000000
theorem VisP.q {a : Int} {l : List (LTerm × Int)} (h : VisP a l) (ha : a ≤ 1000) : VisQ a l := ⟨⟨h.1.1, ha⟩, h.2⟩
theorem visP_of {t : LTerm} (h : validT nodeB t = true) : VisP 0 (vis t 1 ++ []) := by
 rw [List.append_nil]
 simp only [validT, Bool.and_eq_true, decide_eq_true_eq] at h
 refine ⟨⟨Int.le_refl _, by rw [vis_len t h.1.1]; omega⟩, fun v hv => ?_⟩
 have b := vis_bnd t h.1.1 1 v hv
 have b1 := b.lo
 have b2 := b.hi
 have b3 := b.len
 exact ⟨by omega, by omega, by omega⟩
abbrev encI (a : Int) : List AV := [.i .i64 a]
theorem size1 (t : LTerm) (d a : Int) (ht : OkT t) (h0 : 0 ≤ a) (h1 : a ≤ 1000000): ACalls Tryz.prog G0 69 [elT t, .i .i64 d, .ptr 0 0] [.box false [.i .i64 a]] (WalkK encI (a + 1)) := by
 refine acalls_intro (rx := false) (th := fun _ => none) mixed Tryz.func69 rfl (by kernel_rfl) (by kernel_rfl) (ac := ?_) ?_ ?_
 rotate_left
 · simp only [strip, splitQ, stripOps, stripOp, hoist, List.filter_cons, List.filter_nil, List.nil_append, List.cons_append, isFree, anyPre, Region.binds, Bool.not_true, Bool.not_false, Bool.false_eq_true, if_true, if_false, Option.isNone_none, Option.isNone_some, Bool.true_and, Bool.false_and, List.map_nil, List.map_cons, List.isEmpty_nil, List.isEmpty_cons, List.append_nil]
   rfl
 · simp -implicitDefEqProofs (disch := omega) only [Tryz.f69, go_sem, List.replicate, ↓reduceIte, reduceAdd, reduceSub, reduceMul, reduceLeDiff, reduceLT, reduceEqDiff, reduceNeg, Nat.reduceBEq]
   (repeat' (first | refine gT ?_ ?_ | refine gF ?_ ?_ | refine gC ?_ ?_ | refine And.intro (by omega) ?_ | (intro hr; have hc := hr; (try simp only [zda, zdb, zdc, zdd] at hc); simp -implicitDefEqProofs (disch := omega) only [hr, go_sem, ↓reduceIte, reduceAdd, reduceSub, reduceMul, reduceLeDiff, reduceLT, reduceEqDiff, reduceNeg, Nat.reduceBEq]; (try clear hr))))
   exact ⟨rfl, _, rfl⟩
theorem deep1 (t : LTerm) (d a : Int) (ht : OkT t): ACalls Tryz.prog G0 70 [elT t, .i .i64 d, .ptr 0 0] [.box false [.i .i64 a]] (WalkK encI (deep (t, d) a)) := by
 refine acalls_intro (rx := false) (th := fun _ => none) mixed Tryz.func70 rfl (by kernel_rfl) (by kernel_rfl) (ac := ?_) ?_ ?_
 rotate_left
 · simp only [strip, splitQ, stripOps, stripOp, hoist, List.filter_cons, List.filter_nil, List.nil_append, List.cons_append, isFree, anyPre, Region.binds, Bool.not_true, Bool.not_false, Bool.false_eq_true, if_true, if_false, Option.isNone_none, Option.isNone_some, Bool.true_and, Bool.false_and, List.map_nil, List.map_cons, List.isEmpty_nil, List.isEmpty_cons, List.append_nil]
   rfl
 · simp -implicitDefEqProofs (disch := omega) only [Tryz.f70, go_sem, List.replicate, ↓reduceIte, reduceAdd, reduceSub, reduceMul, reduceLeDiff, reduceLT, reduceEqDiff, reduceNeg, Nat.reduceBEq]
   (repeat' (first | refine gT ?_ ?_ | refine gF ?_ ?_ | refine gC ?_ ?_ | refine And.intro (by omega) ?_ | (intro hr; have hc := hr; (try simp only [zda, zdb, zdc, zdd] at hc); simp -implicitDefEqProofs (disch := omega) only [hr, go_sem, ↓reduceIte, reduceAdd, reduceSub, reduceMul, reduceLeDiff, reduceLT, reduceEqDiff, reduceNeg, Nat.reduceBEq]; (try clear hr))))
   exact ⟨rfl, _, rfl⟩
theorem visSize : Vis 69 encI (fun _ a => a + 1) VisP := by
 refine ⟨fun a v l hP ho => ⟨hP.2 v (by simp), ⟨⟨?_, ?_⟩, fun x hx => hP.2 x (by simp [hx])⟩, size1 v.1 v.2 a ho ?_ ?_⟩, fun a => rfl⟩
 all_goals
   have := hP.1
   rw [List.length_cons] at this
   omega
theorem visDeep : Vis 70 encI deep VisQ := by
 refine ⟨fun a v l hP ho => ⟨hP.2 v (by simp), ⟨⟨?_, ?_⟩, fun x hx => hP.2 x (by simp [hx])⟩, deep1 v.1 v.2 a ho⟩, fun a => rfl⟩
 all_goals
   have := hP.1
   have h2 := hP.2 v (by simp)
   simp only [deep]
   split <;> omega

theorem visR_size {l : List (LTerm × Int)} : ∀ {a : Int}, visR (fun _ a => a + 1) a l = a + l.length := by
 induction l with
 | nil => intro a; simp [visR]
 | cons x l ih => intro a; show visR _ (a + 1) l = _; rw [ih, List.length_cons]; omega
def numAV (p : Int × Int) : AV := .tup [.i .i64 p.1, .i .i64 p.2]
def sizeV (t : LTerm) : Int × Int := if validT nodeB t then (nodesT t, 0) else (0, 2)
def depthV (t : LTerm) : Int × Int := if validT nodeB t then (highT t, 0) else (0, 2)
theorem ctr338 (t : LTerm) (ht : OkT t): CT 30 [elT t] (numAV (sizeV t)) := by
 refine sem_introB mixed Tryz.func30 g0 ?_
 · skip
   have c := ctr242 t ht
   cases hv : validT nodeB t with
   | false =>
     rw [hv] at c
     (repeat' (first | refine gT ?_ ?_ | refine gF ?_ ?_ | refine gC ?_ ?_ | ((refine c_ctrE (c) ?_ ?_; (focus (simp -implicitDefEqProofs (disch := omega) only [avs, avb, avi, avo, sigCells, opCells, pairCells, elT, avt, termCells_eq, go_sem, ↓reduceIte, reduceAdd, reduceSub, reduceMul, reduceLeDiff, reduceLT, reduceEqDiff, reduceNeg, Nat.reduceBEq]; done))); simp -implicitDefEqProofs (disch := omega) only [go_sem, ↓reduceIte, reduceAdd, reduceSub, reduceMul, reduceLeDiff, reduceLT, reduceEqDiff, reduceNeg, Nat.reduceBEq]) | refine And.intro (by omega) ?_ | (intro hr; have hc := hr; (try simp only [zda, zdb, zdc, zdd] at hc); simp -implicitDefEqProofs (disch := omega) only [hr, go_sem, ↓reduceIte, reduceAdd, reduceSub, reduceMul, reduceLeDiff, reduceLT, reduceEqDiff, reduceNeg, Nat.reduceBEq]; (try clear hr))))
     refine fin_eq ?_ rfl
     rw [sizeV, hv]; rfl
   | true =>
     rw [hv] at c
     (repeat' (first | refine gT ?_ ?_ | refine gF ?_ ?_ | refine gC ?_ ?_ | ((refine c_ctrE (c) ?_ ?_; (focus (simp -implicitDefEqProofs (disch := omega) only [avs, avb, avi, avo, sigCells, opCells, pairCells, elT, avt, termCells_eq, go_sem, ↓reduceIte, reduceAdd, reduceSub, reduceMul, reduceLeDiff, reduceLT, reduceEqDiff, reduceNeg, Nat.reduceBEq]; done))); simp -implicitDefEqProofs (disch := omega) only [go_sem, ↓reduceIte, reduceAdd, reduceSub, reduceMul, reduceLeDiff, reduceLT, reduceEqDiff, reduceNeg, Nat.reduceBEq]) | refine And.intro (by omega) ?_ | (intro hr; have hc := hr; (try simp only [zda, zdb, zdc, zdd] at hc); simp -implicitDefEqProofs (disch := omega) only [hr, go_sem, ↓reduceIte, reduceAdd, reduceSub, reduceMul, reduceLeDiff, reduceLT, reduceEqDiff, reduceNeg, Nat.reduceBEq]; (try clear hr))))
     refine c_box 1 g0 (walk visSize t ht 1 0 [] (visP_of hv)) rfl rfl rfl rfl ?_ ?_
     · simp only [renL, ren, elT, termCells_eq, avt, renL_pers _ _ persTs, emb_0]
     · intro g2
       simp -implicitDefEqProofs (disch := omega) only [go_sem, ↓reduceIte, reduceAdd, reduceSub, reduceMul, reduceLeDiff, reduceLT, reduceEqDiff, reduceNeg, Nat.reduceBEq]
       refine fin_eq ?_ rfl
       rw [visR_size, vis_len t (valid_wf hv), sizeV, hv, if_pos rfl, Int.zero_add]
       rfl
theorem ctr340 (t : LTerm) (ht : OkT t): CT 32 [elT t] (numAV (depthV t)) := by
 refine sem_introB mixed Tryz.func32 g0 ?_
 · skip
   have c := ctr242 t ht
   cases hv : validT nodeB t with
   | false =>
     rw [hv] at c
     (repeat' (first | refine gT ?_ ?_ | refine gF ?_ ?_ | refine gC ?_ ?_ | ((refine c_ctrE (c) ?_ ?_; (focus (simp -implicitDefEqProofs (disch := omega) only [avs, avb, avi, avo, sigCells, opCells, pairCells, elT, avt, termCells_eq, go_sem, ↓reduceIte, reduceAdd, reduceSub, reduceMul, reduceLeDiff, reduceLT, reduceEqDiff, reduceNeg, Nat.reduceBEq]; done))); simp -implicitDefEqProofs (disch := omega) only [go_sem, ↓reduceIte, reduceAdd, reduceSub, reduceMul, reduceLeDiff, reduceLT, reduceEqDiff, reduceNeg, Nat.reduceBEq]) | refine And.intro (by omega) ?_ | (intro hr; have hc := hr; (try simp only [zda, zdb, zdc, zdd] at hc); simp -implicitDefEqProofs (disch := omega) only [hr, go_sem, ↓reduceIte, reduceAdd, reduceSub, reduceMul, reduceLeDiff, reduceLT, reduceEqDiff, reduceNeg, Nat.reduceBEq]; (try clear hr))))
     refine fin_eq ?_ rfl
     rw [depthV, hv]; rfl
   | true =>
     rw [hv] at c
     (repeat' (first | refine gT ?_ ?_ | refine gF ?_ ?_ | refine gC ?_ ?_ | ((refine c_ctrE (c) ?_ ?_; (focus (simp -implicitDefEqProofs (disch := omega) only [avs, avb, avi, avo, sigCells, opCells, pairCells, elT, avt, termCells_eq, go_sem, ↓reduceIte, reduceAdd, reduceSub, reduceMul, reduceLeDiff, reduceLT, reduceEqDiff, reduceNeg, Nat.reduceBEq]; done))); simp -implicitDefEqProofs (disch := omega) only [go_sem, ↓reduceIte, reduceAdd, reduceSub, reduceMul, reduceLeDiff, reduceLT, reduceEqDiff, reduceNeg, Nat.reduceBEq]) | refine And.intro (by omega) ?_ | (intro hr; have hc := hr; (try simp only [zda, zdb, zdc, zdd] at hc); simp -implicitDefEqProofs (disch := omega) only [hr, go_sem, ↓reduceIte, reduceAdd, reduceSub, reduceMul, reduceLeDiff, reduceLT, reduceEqDiff, reduceNeg, Nat.reduceBEq]; (try clear hr))))
     refine c_box 1 g0 (walk visDeep t ht 1 0 [] ((visP_of hv).q (by decide))) rfl rfl rfl rfl ?_ ?_
     · simp only [renL, ren, elT, termCells_eq, avt, renL_pers _ _ persTs, emb_0]
     · intro g2
       simp -implicitDefEqProofs (disch := omega) only [go_sem, ↓reduceIte, reduceAdd, reduceSub, reduceMul, reduceLeDiff, reduceLT, reduceEqDiff, reduceNeg, Nat.reduceBEq]
       refine fin_eq ?_ rfl
       rw [vis_deep t (valid_wf hv), depthV, hv, if_pos rfl]
       have := highT_eq t
       rw [show max (0 : Int) (1 + highT t - 1) = highT t by omega]
       rfl
@[simp] theorem nodesL_nil : nodesL [] = 0 := rfl
@[simp] theorem highL_nil : highL [] = 0 := rfl
theorem nodesL_succ {l : List LTerm} {k : Nat} (h : k < l.length) : nodesL (l.take (k + 1)) = nodesL (l.take k) + nodesT (l.getD k default) := by
 have : ∀ (a b : List LTerm), nodesL (a ++ b) = nodesL a + nodesL b := by
   intro a b
   induction a with
   | nil => simp [nodesL]
   | cons x a ih => rw [List.cons_append, nodesL, nodesL, ih]; omega
 rw [take_getD (d := default) h, this, nodesL, nodesL]; omega
theorem nodesL_take : ∀ {l : List LTerm} {k : Nat}, nodesL (l.take k) ≤ nodesL l
 | [], k => by simp
 | x :: l, 0 => by simp [nodesL]
 | x :: l, k + 1 => by rw [List.take_succ_cons, nodesL, nodesL]; have := nodesL_take (l := l) (k := k); omega
theorem highL_succ {l : List LTerm} {k : Nat} (h : k < l.length) : highL (l.take (k + 1)) = max (highL (l.take k)) (highT (l.getD k default)) := by
 have : ∀ (a b : List LTerm), highL (a ++ b) = max (highL a) (highL b) := by
   intro a b
   induction a with
   | nil => simp [highL]
   | cons x a ih => rw [List.cons_append, highL, highL, ih]; omega
 rw [take_getD (d := default) h, this, highL, highL]; omega
theorem highL_take : ∀ {l : List LTerm} {k : Nat}, highL (l.take k) ≤ highL l
 | [], k => by simp
 | x :: l, 0 => by simp [highL]
 | x :: l, k + 1 => by rw [List.take_succ_cons, highL, highL]; have := highL_take (l := l) (k := k); omega
theorem nodesT_mem {l : List LTerm} {k : LTerm} (h : k ∈ l) : nodesT k ≤ nodesL l ∧ highT k ≤ highL l := by
 induction l with
 | nil => cases h
 | cons x l ih =>
   rw [nodesL, highL]
   rcases List.mem_cons.1 h with rfl | h
   · omega
   · have := ih h; omega
theorem nodes1 (t : LTerm) (ht : OkT t) (hn : nodesT t ≤ 1000000) (ih : ∀ k ∈ t.kids, nodesT k ≤ 1000000 → CT 46 [elT k] (.i .i64 (nodesT k))): CT 46 [elT t] (.i .i64 (nodesT t)) := by
 refine sem_introB mixed Tryz.func46 g0 ?_
 · skip
   have he := nodesT_eq t
   have hl := nodesL_len t.kids
   simp -implicitDefEqProofs (disch := omega) only [go_sem, ↓reduceIte, reduceAdd, reduceSub, reduceMul, reduceLeDiff, reduceLT, reduceEqDiff, reduceNeg, Nat.reduceBEq]
   (repeat' (first | refine gT ?_ ?_ | refine gF ?_ ?_ | refine gC ?_ ?_ | refine And.intro (by omega) ?_ | (intro hr; have hc := hr; (try simp only [zda, zdb, zdc, zdd] at hc); simp -implicitDefEqProofs (disch := omega) only [hr, go_sem, ↓reduceIte, reduceAdd, reduceSub, reduceMul, reduceLeDiff, reduceLT, reduceEqDiff, reduceNeg, Nat.reduceBEq]; (try clear hr))))
   refine x_loopG (fun (k : Nat) => [.k, .k, .k, .v (.i .i64 ((1 + t.rest.length + nodesL (t.kids.take k) : Nat) : Int)), .k, .j, .k, .k, .k, .k, .k, .k, .k, .v (.i .i64 (k : Nat)), .j, .j, .j, .j, .j, .j, .j, .j, .k]) (fun k => [.box false [.i .i64 (t).kind, .i .i64 (t).n, .s (t).text, .s (t).sort, .sl ((t).kids.flatMap termCells) (t).kids.length, .sl ((t).rest.flatMap termCells) (t).rest.length]]) (fun k => k ≤ t.kids.length) (fun k => t.kids.length - k) (0) _ (Nat.zero_le _) rfl (by simp [Fits]) ?_
   rintro k g j hk
   simp -implicitDefEqProofs (disch := omega) only [go_sem, ↓reduceIte, reduceAdd, reduceSub, reduceMul, reduceLeDiff, reduceLT, reduceEqDiff, reduceNeg, Nat.reduceBEq]
   (repeat' (first | refine gT ?_ ?_ | refine gF ?_ ?_ | refine gC ?_ ?_ | refine And.intro (by omega) ?_ | (intro hr; have hc := hr; (try simp only [zda, zdb, zdc, zdd] at hc); simp -implicitDefEqProofs (disch := omega) only [hr, go_sem, ↓reduceIte, reduceAdd, reduceSub, reduceMul, reduceLeDiff, reduceLT, reduceEqDiff, reduceNeg, Nat.reduceBEq]; (try clear hr))))
   · have hlt : k < t.kids.length := by omega
     have hs := nodesL_succ hlt
     have hb := nodesL_take (l := t.kids) (k := k + 1)
     have c := ih _ (mem_getD (d := default) hlt) (by have := (nodesT_mem (mem_getD (d := default) hlt)).1; omega)
     (repeat' (first | refine gT ?_ ?_ | refine gF ?_ ?_ | refine gC ?_ ?_ | ((refine c_ctrE (c) ?_ ?_; (focus (simp -implicitDefEqProofs (disch := omega) only [avs, avb, avi, avo, sigCells, opCells, pairCells, elT, avt, termCells_eq, go_sem, ↓reduceIte, reduceAdd, reduceSub, reduceMul, reduceLeDiff, reduceLT, reduceEqDiff, reduceNeg, Nat.reduceBEq]; done))); simp -implicitDefEqProofs (disch := omega) only [go_sem, ↓reduceIte, reduceAdd, reduceSub, reduceMul, reduceLeDiff, reduceLT, reduceEqDiff, reduceNeg, Nat.reduceBEq]) | refine And.intro (by omega) ?_ | (intro hr; have hc := hr; (try simp only [zda, zdb, zdc, zdd] at hc); simp -implicitDefEqProofs (disch := omega) only [hr, go_sem, ↓reduceIte, reduceAdd, reduceSub, reduceMul, reduceLeDiff, reduceLT, reduceEqDiff, reduceNeg, Nat.reduceBEq]; (try clear hr))))
     exact ⟨k + 1, _, by omega, by omega, rfl, by rw [hs]; congr 1; omega, by simp⟩
   · refine fin_eq ?_ rfl
     rw [he]
     try (congr 1; omega)
theorem ctr354 : ∀ (t : LTerm), OkT t → nodesT t ≤ 1000000 → CT 46 [elT t] (.i .i64 (nodesT t)) :=
 term_ind fun t hk _ ht hn => nodes1 t ht hn fun k hm => hk k hm (ht.kid k hm)
theorem high1 (t : LTerm) (ht : OkT t) (hn : highT t ≤ 1000000) (ih : ∀ k ∈ t.kids, highT k ≤ 1000000 → CT 47 [elT k] (.i .i64 (highT k))): CT 47 [elT t] (.i .i64 (highT t)) := by
 refine sem_introB mixed Tryz.func47 g0 ?_
 · skip
   have he := highT_eq t
   have hl := ht.kids
   (repeat' (first | refine gT ?_ ?_ | refine gF ?_ ?_ | refine gC ?_ ?_ | refine And.intro (by omega) ?_ | (intro hr; have hc := hr; (try simp only [zda, zdb, zdc, zdd] at hc); simp -implicitDefEqProofs (disch := omega) only [hr, go_sem, ↓reduceIte, reduceAdd, reduceSub, reduceMul, reduceLeDiff, reduceLT, reduceEqDiff, reduceNeg, Nat.reduceBEq]; (try clear hr))))
   refine x_loopG (fun (k : Nat) => [.k, .k, .k, .v (.i .i64 ((max t.rest.length (highL (t.kids.take k)) : Nat) : Int)), .k, .j, .k, .k, .k, .k, .k, .k, .v (.i .i64 (k : Nat)), .j, .j, .j, .j, .j, .j, .j, .j, .k, .k]) (fun k => [.box false [.i .i64 (t).kind, .i .i64 (t).n, .s (t).text, .s (t).sort, .sl ((t).kids.flatMap termCells) (t).kids.length, .sl ((t).rest.flatMap termCells) (t).rest.length]]) (fun k => k ≤ t.kids.length) (fun k => t.kids.length - k) (0) _ (Nat.zero_le _) rfl (by simp [Fits]) ?_
   rintro k g j hk
   simp -implicitDefEqProofs (disch := omega) only [go_sem, ↓reduceIte, reduceAdd, reduceSub, reduceMul, reduceLeDiff, reduceLT, reduceEqDiff, reduceNeg, Nat.reduceBEq]
   (repeat' (first | refine gT ?_ ?_ | refine gF ?_ ?_ | refine gC ?_ ?_ | refine And.intro (by omega) ?_ | (intro hr; have hc := hr; (try simp only [zda, zdb, zdc, zdd] at hc); simp -implicitDefEqProofs (disch := omega) only [hr, go_sem, ↓reduceIte, reduceAdd, reduceSub, reduceMul, reduceLeDiff, reduceLT, reduceEqDiff, reduceNeg, Nat.reduceBEq]; (try clear hr))))
   · have hlt : k < t.kids.length := by omega
     have hs := highL_succ hlt
     have hb := highL_take (l := t.kids) (k := k + 1)
     have c := ih _ (mem_getD (d := default) hlt) (by have := (nodesT_mem (mem_getD (d := default) hlt)).2; omega)
     (repeat' (first | refine gT ?_ ?_ | refine gF ?_ ?_ | refine gC ?_ ?_ | ((refine c_ctrE (c) ?_ ?_; (focus (simp -implicitDefEqProofs (disch := omega) only [avs, avb, avi, avo, sigCells, opCells, pairCells, elT, avt, termCells_eq, go_sem, ↓reduceIte, reduceAdd, reduceSub, reduceMul, reduceLeDiff, reduceLT, reduceEqDiff, reduceNeg, Nat.reduceBEq]; done))); simp -implicitDefEqProofs (disch := omega) only [go_sem, ↓reduceIte, reduceAdd, reduceSub, reduceMul, reduceLeDiff, reduceLT, reduceEqDiff, reduceNeg, Nat.reduceBEq]) | refine And.intro (by omega) ?_ | (intro hr; have hc := hr; (try simp only [zda, zdb, zdc, zdd] at hc); simp -implicitDefEqProofs (disch := omega) only [hr, go_sem, ↓reduceIte, reduceAdd, reduceSub, reduceMul, reduceLeDiff, reduceLT, reduceEqDiff, reduceNeg, Nat.reduceBEq]; (try clear hr))))
     exact ⟨k + 1, _, by omega, by omega, rfl, by rw [hs]; congr 1; omega, by simp⟩
   · refine fin_eq ?_ rfl
     rw [he]
     try (congr 1; omega)
theorem ctr355 : ∀ (t : LTerm), OkT t → highT t ≤ 1000000 → CT 47 [elT t] (.i .i64 (highT t)) :=
 term_ind fun t hk _ ht hn => high1 t ht hn fun k hm => hk k hm (ht.kid k hm)
theorem ctr339 (t : LTerm) (ht : OkT t): CT 31 [elT t] (numAV (sizeV t)) := by
 refine sem_introB mixed Tryz.func31 g0 ?_
 · skip
   have c := ctr252 t ht
   cases hv : validT nodeB t with
   | false =>
     rw [hv] at c
     (repeat' (first | refine gT ?_ ?_ | refine gF ?_ ?_ | refine gC ?_ ?_ | ((refine c_ctrE (c) ?_ ?_; (focus (simp -implicitDefEqProofs (disch := omega) only [avs, avb, avi, avo, sigCells, opCells, pairCells, elT, avt, termCells_eq, go_sem, ↓reduceIte, reduceAdd, reduceSub, reduceMul, reduceLeDiff, reduceLT, reduceEqDiff, reduceNeg, Nat.reduceBEq]; done))); simp -implicitDefEqProofs (disch := omega) only [go_sem, ↓reduceIte, reduceAdd, reduceSub, reduceMul, reduceLeDiff, reduceLT, reduceEqDiff, reduceNeg, Nat.reduceBEq]) | refine And.intro (by omega) ?_ | (intro hr; have hc := hr; (try simp only [zda, zdb, zdc, zdd] at hc); simp -implicitDefEqProofs (disch := omega) only [hr, go_sem, ↓reduceIte, reduceAdd, reduceSub, reduceMul, reduceLeDiff, reduceLT, reduceEqDiff, reduceNeg, Nat.reduceBEq]; (try clear hr))))
     refine fin_eq ?_ rfl
     rw [sizeV, hv]; rfl
   | true =>
     rw [hv] at c
     have c2 := ctr354 t ht (by simp only [validT, Bool.and_eq_true, decide_eq_true_eq] at hv; omega)
     (repeat' (first | refine gT ?_ ?_ | refine gF ?_ ?_ | refine gC ?_ ?_ | ((first | (refine c_ctrE (c) ?_ ?_; (focus (simp -implicitDefEqProofs (disch := omega) only [avs, avb, avi, avo, sigCells, opCells, pairCells, elT, avt, termCells_eq, go_sem, ↓reduceIte, reduceAdd, reduceSub, reduceMul, reduceLeDiff, reduceLT, reduceEqDiff, reduceNeg, Nat.reduceBEq]; done))) | (refine c_ctrE (c2) ?_ ?_; (focus (simp -implicitDefEqProofs (disch := omega) only [avs, avb, avi, avo, sigCells, opCells, pairCells, elT, avt, termCells_eq, go_sem, ↓reduceIte, reduceAdd, reduceSub, reduceMul, reduceLeDiff, reduceLT, reduceEqDiff, reduceNeg, Nat.reduceBEq]; done)))); simp -implicitDefEqProofs (disch := omega) only [go_sem, ↓reduceIte, reduceAdd, reduceSub, reduceMul, reduceLeDiff, reduceLT, reduceEqDiff, reduceNeg, Nat.reduceBEq]) | refine And.intro (by omega) ?_ | (intro hr; have hc := hr; (try simp only [zda, zdb, zdc, zdd] at hc); simp -implicitDefEqProofs (disch := omega) only [hr, go_sem, ↓reduceIte, reduceAdd, reduceSub, reduceMul, reduceLeDiff, reduceLT, reduceEqDiff, reduceNeg, Nat.reduceBEq]; (try clear hr))))
     refine fin_eq ?_ rfl
     rw [sizeV, hv]; rfl
theorem ctr341 (t : LTerm) (ht : OkT t): CT 33 [elT t] (numAV (depthV t)) := by
 refine sem_introB mixed Tryz.func33 g0 ?_
 · skip
   have c := ctr252 t ht
   cases hv : validT nodeB t with
   | false =>
     rw [hv] at c
     (repeat' (first | refine gT ?_ ?_ | refine gF ?_ ?_ | refine gC ?_ ?_ | ((refine c_ctrE (c) ?_ ?_; (focus (simp -implicitDefEqProofs (disch := omega) only [avs, avb, avi, avo, sigCells, opCells, pairCells, elT, avt, termCells_eq, go_sem, ↓reduceIte, reduceAdd, reduceSub, reduceMul, reduceLeDiff, reduceLT, reduceEqDiff, reduceNeg, Nat.reduceBEq]; done))); simp -implicitDefEqProofs (disch := omega) only [go_sem, ↓reduceIte, reduceAdd, reduceSub, reduceMul, reduceLeDiff, reduceLT, reduceEqDiff, reduceNeg, Nat.reduceBEq]) | refine And.intro (by omega) ?_ | (intro hr; have hc := hr; (try simp only [zda, zdb, zdc, zdd] at hc); simp -implicitDefEqProofs (disch := omega) only [hr, go_sem, ↓reduceIte, reduceAdd, reduceSub, reduceMul, reduceLeDiff, reduceLT, reduceEqDiff, reduceNeg, Nat.reduceBEq]; (try clear hr))))
     refine fin_eq ?_ rfl
     rw [depthV, hv]; rfl
   | true =>
     rw [hv] at c
     have c2 := ctr355 t ht (by simp only [validT, Bool.and_eq_true, decide_eq_true_eq] at hv; omega)
     (repeat' (first | refine gT ?_ ?_ | refine gF ?_ ?_ | refine gC ?_ ?_ | ((first | (refine c_ctrE (c) ?_ ?_; (focus (simp -implicitDefEqProofs (disch := omega) only [avs, avb, avi, avo, sigCells, opCells, pairCells, elT, avt, termCells_eq, go_sem, ↓reduceIte, reduceAdd, reduceSub, reduceMul, reduceLeDiff, reduceLT, reduceEqDiff, reduceNeg, Nat.reduceBEq]; done))) | (refine c_ctrE (c2) ?_ ?_; (focus (simp -implicitDefEqProofs (disch := omega) only [avs, avb, avi, avo, sigCells, opCells, pairCells, elT, avt, termCells_eq, go_sem, ↓reduceIte, reduceAdd, reduceSub, reduceMul, reduceLeDiff, reduceLT, reduceEqDiff, reduceNeg, Nat.reduceBEq]; done)))); simp -implicitDefEqProofs (disch := omega) only [go_sem, ↓reduceIte, reduceAdd, reduceSub, reduceMul, reduceLeDiff, reduceLT, reduceEqDiff, reduceNeg, Nat.reduceBEq]) | refine And.intro (by omega) ?_ | (intro hr; have hc := hr; (try simp only [zda, zdb, zdc, zdd] at hc); simp -implicitDefEqProofs (disch := omega) only [hr, go_sem, ↓reduceIte, reduceAdd, reduceSub, reduceMul, reduceLeDiff, reduceLT, reduceEqDiff, reduceNeg, Nat.reduceBEq]; (try clear hr))))
     refine fin_eq ?_ rfl
     rw [depthV, hv]; rfl
end Go.Proofs.YtnjnjdebgkjfhaaGreatDoor
