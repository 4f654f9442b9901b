/-
  What functions of the chapter return, as plain functions of what they are given; no condition beyond those that each theorem names.
-/
import Derived.Test.YtnjnjdebgkjfhaaGreatDoorVaP26
import Derived.Test.YtnjnjdebgkjfhaaGreatDoorSoP24
import Derived.Test.YtnjnjdebgkjfhaaGreatDoorVaP28
set_option maxRecDepth 100000
set_option linter.unusedSimpArgs false
set_option linter.unusedVariables false
set_option maxHeartbeats 4000000
namespace Go.Proofs.YtnjnjdebgkjfhaaGreatDoor
open Go Go.Vo
open Nat (reduceAdd reduceSub reduceMul reduceLeDiff reduceLT reduceEqDiff)
open Int (reduceNeg)

def opFitG (s : LSig) (t : LTerm) : Bool := decide ((argsR2 s t.text).1.length = t.kids.length) && allN t.kids.length (fun i => underR s (ofR s (t.kids.getD i default)).1 ((argsR2 s t.text).1.getD i []) || underR s ((argsR2 s t.text).1.getD i []) (ofR s (t.kids.getD i default)).1)
mutual
def fitsR (s : LSig) : LTerm → Bool
 | .mk k n x so ks rs => (ofR s (.mk k n x so ks rs)).2 && (fitsRL s ks && (if k = 5 then opFitG s (.mk k n x so ks rs) else true))
def fitsRL (s : LSig) : List LTerm → Bool
 | [] => true
 | k :: l => fitsR s k && fitsRL s l
end
theorem fitsRL_eq {s : LSig} : ∀ l, fitsRL s l = l.all (fitsR s)
 | [] => rfl
 | k :: l => by rw [fitsRL, fitsRL_eq l]; rfl
theorem fitsR_eq (s : LSig) (t : LTerm) : fitsR s t = ((ofR s t).2 && (t.kids.all (fitsR s) && (if t.kind = 5 then opFitG s t else true))) := by
 cases t; rw [fitsR, fitsRL_eq]; rfl
def sortVR (s : LSig) (t : LTerm) : Str × Int := if (validB s && validT nodeB t) = true then (if (ofR s t).2 = true then ((ofR s t).1, 0) else ([], 13)) else ([], 2)

theorem ex_ne {s : LSig} {x : Str} (hv : validB s = true) (h : existsA s x = true) : x ≠ [] := by
 simp only [existsA, keysOf, List.contains_iff_mem, List.mem_append] at h
 rcases h with h | h
 · exact (by decide : ∀ y ∈ alwaysA, y ≠ []) x h
 · simp only [validB, validMid, Bool.and_eq_true, List.all_eq_true] at hv
   have := hv.1.2.1.2 x h
   simp only [freshA, isName, Bool.and_eq_true] at this
   rintro rfl
   simp at this
theorem valid_funs {s : LSig} (h : validB s = true) : ∀ o ∈ s.funs, isFun s o = true := by
 simp only [validB, validHead, validMid, validTail, Bool.and_eq_true, List.all_eq_true, decide_eq_true_eq] at h
 exact h.2.2
theorem built_same : builtIns.all (fun x => decide (argsP x = (builtR x).1) && decide (resultP x = (builtR x).2) && alwaysA.contains (resultP x) && (argsP x).all alwaysA.contains) = true := by decide +kernel
structure CalledOk (s : LSig) (x : Str) : Prop where
 ok : (called s x).2.2 = (argsR2 s x).2.2
 args : (called s x).2.2 = true → (called s x).1.args = (argsR2 s x).1
 sort : (called s x).2.2 = true → (called s x).1.sort = (argsR2 s x).2.1
 exS : (called s x).2.2 = true → existsA s (called s x).1.sort = true
 exA : (called s x).2.2 = true → ∀ y ∈ (called s x).1.args, existsA s y = true
 no : (called s x).2.2 = false → (called s x).1.sort = []
theorem called_ok {s : LSig} {x : Str} (hv : validB s = true) : CalledOk s x := by
 cases h1 : opAt s x with
 | some o =>
   have ho := valid_ops hv o (opAt_mem h1)
   have hs := op_sort ho
   simp only [isOp, opHead, Bool.and_eq_true, List.all_eq_true] at ho
   have ha := ho.1.1.1.1.1.1.2
   constructor <;> simp only [called, argsR2, h1] <;> intros <;> first | rfl | exact hs | exact ha _ ‹_› | trivial | contradiction
 | none =>
   cases h2 : funAt s x with
   | some o =>
     have ho := valid_funs hv o (List.mem_of_find?_eq_some h2)
     simp only [isFun, Bool.and_eq_true, List.all_eq_true] at ho
     have ha := ho.1.1.2
     have hs := ho.1.2
     constructor <;> simp only [called, argsR2, h1, h2] <;> intros <;> first | rfl | exact hs | exact ha _ ‹_› | trivial | contradiction
   | none =>
     rcases bool_em (builtIns.contains x) with h3 | h3
     · have hb := List.all_eq_true.1 built_same x (List.contains_iff_mem.1 h3)
       simp only [Bool.and_eq_true, decide_eq_true_eq, List.all_eq_true] at hb
       obtain ⟨⟨⟨b1, b2⟩, b3⟩, b4⟩ := hb
       have hs : existsA s (resultP x) = true := ex_built (List.contains_iff_mem.1 b3)
       have ha : ∀ y ∈ argsP x, existsA s y = true := fun y hy => ex_built (List.contains_iff_mem.1 (b4 y hy))
       constructor <;> simp only [called, argsR2, h1, h2, builtOp, h3, if_true] <;> intros <;> first | rfl | exact b1 | exact b2 | exact hs | exact ha _ ‹_› | trivial | contradiction
     · constructor <;> simp only [called, argsR2, h1, h2, builtOp, h3, Bool.false_eq_true, if_false] <;> intros <;> first | rfl | trivial | contradiction
theorem of_sort {s : LSig} {t : LTerm} (hv : validB s = true) (hn : nodeB t = true) : ((ofR s t).2 = true → sortP s t = (ofR s t).1 ∧ existsA s (sortP s t) = true) ∧ ((ofR s t).2 = false → sortP s t = []) := by
 have hk := nodeB_k hn
 have hc := called_ok (x := t.text) hv
 by_cases h5 : t.kind = 5
 · simp only [sortP, ofR, h5, Int.reduceEq, if_true, if_false]
   rw [← hc.ok]
   exact ⟨fun h => ⟨hc.sort h, hc.exS h⟩, hc.no⟩
 by_cases h6 : t.kind = 6
 · simp only [sortP, ofR, h6, Int.reduceEq, if_true, if_false, exists_eq]
   exact ⟨fun h => by rw [if_pos h]; exact ⟨rfl, h⟩, fun h => by rw [if_neg (by rw [h]; simp)]⟩
 have e : ∀ (a : Str), a ∈ alwaysA → (True → True ∧ existsA s a = true) ∧ (true = false → a = []) := fun a ha => ⟨fun _ => ⟨trivial, ex_built ha⟩, fun h => by cases h⟩
 by_cases h1 : t.kind = 1
 · simp only [sortP, ofR, h1, Int.reduceEq, if_true, if_false]; exact e intS (by decide)
 by_cases h2 : t.kind = 2
 · simp only [sortP, ofR, h2, Int.reduceEq, if_true, if_false]; exact e boolS (by decide)
 by_cases h3 : t.kind = 3
 · simp only [sortP, ofR, h3, Int.reduceEq, if_true, if_false]; exact e textS (by decide)
 by_cases h4 : t.kind = 4
 · simp only [sortP, ofR, h4, Int.reduceEq, if_true, if_false]; exact e idS (by decide)
 by_cases h7 : t.kind = 7
 · simp only [sortP, ofR, h7, Int.reduceEq, if_true, if_false]; exact e listS (by decide)
 have h8 : t.kind = 8 := by omega
 simp only [sortP, ofR, h8, Int.reduceEq, if_true, if_false]; exact e mapS (by decide)
theorem sortV_eq {s : LSig} {t : LTerm} : sortVR s t = sortV s t := by
 rw [sortVR, sortV]
 rcases bool_em (validB s && validT nodeB t) with h | h
 · rw [if_pos h, if_pos h]
   rw [Bool.and_eq_true] at h
   have o := of_sort h.1 (wfT_eq.1 (valid_wf h.2)).1 (s := s)
   rcases bool_em (ofR s t).2 with h2 | h2
   · have q := o.1 h2
     rw [if_pos h2, if_neg (ex_ne h.1 q.2), q.1]
   · rw [if_neg (by rw [h2]; simp), if_pos (o.2 h2)]
 · rw [if_neg (by rw [h]; simp), if_neg (by rw [h]; simp)]
theorem fits_eq {s : LSig} (hv : validB s = true) : ∀ t : LTerm, wfT nodeB t = true → fitsR s t = fitsP s t :=
 term_ind (Q := fun t => wfT nodeB t = true → fitsR s t = fitsP s t) fun t hk _ hw => by
   have hw' := wfT_eq.1 hw
   have ek : t.kids.all (fitsR s) = t.kids.all (fitsP s) := all_congr fun x hx => hk x hx (hw'.2 x hx)
   rw [fitsR_eq, fitsP_eq, ek]
   rcases bool_em (t.kids.all (fitsP s)) with ha | ha
   · rw [ha, Bool.true_and, Bool.true_and]
     have hc := called_ok (x := t.text) hv
     by_cases h6 : t.kind = 6
     · rw [if_pos h6, if_neg (by omega), Bool.and_true]
       simp only [ofR, h6, Int.reduceEq, if_true, if_false, exists_eq]
     rw [if_neg h6]
     by_cases h5 : t.kind = 5
     · rw [if_pos h5, if_pos h5, opFitF, opFitG]
       have e2 : (ofR s t).2 = (called s t.text).2.2 := by simp only [ofR, h5, Int.reduceEq, if_true, if_false]; exact hc.ok.symm
       rw [e2]
       rcases bool_em (called s t.text).2.2 with ho | ho
       · rw [ho, Bool.true_and, Bool.true_and, ← hc.args ho]
         by_cases hn : (called s t.text).1.args.length = t.kids.length
         · rw [zt hn, Bool.true_and, Bool.true_and]
           refine allN_congr fun j hj => ?_
           have hm : t.kids.getD j default ∈ t.kids := mem_getD hj
           have hf : fitsR s (t.kids.getD j default) = true := by rw [hk _ hm (hw'.2 _ hm)]; exact List.all_eq_true.1 ha _ hm
           have hof : (ofR s (t.kids.getD j default)).2 = true := by rw [fitsR_eq, Bool.and_eq_true] at hf; exact hf.1
           have q := (of_sort hv (wfT_eq.1 (hw'.2 _ hm)).1).1 hof
           have hx : existsA s ((called s t.text).1.args.getD j []) = true := hc.exA ho _ (by
             have : j < (called s t.text).1.args.length := by omega
             simp only [List.getD, List.getElem?_eq_getElem this, Option.getD_some]
             exact List.getElem_mem this)
           rw [← q.1, under_eq q.2, under_eq hx, meets]
         · rw [zf hn, Bool.false_and, Bool.false_and]
       · rw [ho, Bool.false_and, Bool.false_and]
     · rw [if_neg h5, if_neg h5, Bool.and_true]
       have hkk := nodeB_k hw'.1
       simp only [ofR]
       repeat' split
       all_goals first | rfl | omega
   · rw [ha, Bool.false_and, Bool.false_and, Bool.and_false]

theorem plainP_parts {s : LSig} {t : LTerm} (h : plainP s t = true) : t.kind ≠ 6 ∧ t.rest = [] ∧ (∀ k ∈ t.kids, plainP s k = true) ∧ (t.kind = 5 → opFitP s t = true) := by
 rw [plainP_eq] at h
 simp only [Bool.and_eq_true, Bool.not_eq_true', decide_eq_false_iff_not, decide_eq_true_eq, List.all_eq_true] at h
 exact ⟨h.1.1.1, h.1.1.2, h.1.2, fun h5 => by have := h.2; rwa [if_pos h5] at this⟩
theorem plain_fits {s : LSig} : ∀ t : LTerm, plainP s t = true → fitsP s t = true :=
 term_ind (Q := fun t => plainP s t = true → fitsP s t = true) fun t hk _ h => by
   obtain ⟨h6, hr, hks, h5⟩ := plainP_parts h
   rw [fitsP_eq, Bool.and_eq_true, List.all_eq_true]
   refine ⟨fun k hm => hk k hm (hks k hm), ?_⟩
   rw [if_neg h6]
   by_cases e5 : t.kind = 5
   · rw [if_pos e5]
     have h5 := h5 e5
     unfold opFitP at h5
     unfold opFitF called
     cases ho : opAt s t.text with
     | none => rw [ho] at h5; cases h5
     | some o =>
       rw [ho] at h5
       simp only [Bool.and_eq_true, decide_eq_true_eq] at h5
       simp only [Bool.true_and, Bool.and_eq_true, decide_eq_true_eq]
       refine ⟨h5.1, allN_true fun j hj => ?_⟩
       have := allN_iff.1 h5.2 j hj
       rw [meets, this]; rfl
   · rw [if_neg e5]
theorem plain_vis {s : LSig} : ∀ t : LTerm, plainP s t = true → ∀ d, ∀ v ∈ vis t d, v.1.kind ≠ 6 :=
 term_ind (Q := fun t => plainP s t = true → ∀ d, ∀ v ∈ vis t d, v.1.kind ≠ 6) fun t hk _ h d v hv => by
   obtain ⟨h6, hr, hks, _⟩ := plainP_parts h
   rw [vis_eq, hr, List.append_nil, List.mem_cons] at hv
   rcases hv with rfl | hv
   · exact h6
   · have key : ∀ l : List LTerm, (∀ k ∈ l, plainP s k = true ∧ ∀ d, ∀ v ∈ vis k d, v.1.kind ≠ 6) → v ∈ visL l (d + 1) → v.1.kind ≠ 6 := by
       intro l
       induction l with
       | nil => intro _ h; simp [visL] at h
       | cons x l ih =>
         intro hl hv
         rw [visL, List.mem_append] at hv
         rcases hv with hv | hv
         · exact (hl x (by simp)).2 _ v hv
         · exact ih (fun k hk => hl k (by simp [hk])) hv
     exact key t.kids (fun k hm => ⟨hks k hm, hk k hm (hks k hm)⟩) hv
theorem names_none : ∀ {vs : List (LTerm × Int)} {l : List Str}, (∀ v ∈ vs, v.1.kind ≠ 6) → visR addV l vs = l
 | [], l, _ => rfl
 | v :: vs, l, h => by
   have e : addV v l = l := by rw [addV, addN, if_neg (fun q => h v (by simp) q.1)]
   show visR addV (addV v l) vs = l
   rw [e, names_none (fun x hx => h x (by simp [hx]))]
theorem plain_vars {s : LSig} {t : LTerm} (h : plainP s t = true) : varsV t = [] := by
 have : namesV t = [] := names_none (plain_vis t h 1)
 rw [varsV, this]; simp [sortS]; rfl
theorem plain_sortV {s : LSig} {t : LTerm} (hs : validB s = true) (h : plainV s t = true) : ∃ x, sortV s t = (x, 0) := by
 rw [plainV, Bool.and_eq_true] at h
 have hf : fitsR s t = true := by rw [fits_eq hs t (valid_wf h.1)]; exact plain_fits t h.2
 rw [fitsR_eq, Bool.and_eq_true] at hf
 rw [← sortV_eq, sortVR, hs, h.1, Bool.and_self, if_pos rfl, if_pos hf.1]
 exact ⟨_, rfl⟩
theorem plain_kid {s : LSig} {t c : LTerm} (h : plainV s t = true) (hc : c ∈ t.kids) : plainV s c = true := by
 rw [plainV, Bool.and_eq_true] at h ⊢
 refine ⟨?_, (plainP_parts h.2).2.2.1 c hc⟩
 have hv := h.1
 simp only [validT, Bool.and_eq_true, decide_eq_true_eq] at hv ⊢
 have m := nodesT_mem hc
 have e1 := nodesT_eq t
 have e2 := highT_eq t
 exact ⟨⟨(wfT_eq.1 hv.1.1).2 c hc, by omega⟩, by omega⟩
theorem ctr326 (s : LSig) (t : LTerm) (hs : OkS s) (ht : OkT t): CT 12 [.agg (sigCells s), elT t] (.b true) := by
 refine sem_introA mixed Tryz.func12 g0 ?_
 · simp -implicitDefEqProofs (disch := omega) only [Tryz.f12, List.length_cons, List.length_nil, Nat.zero_add, List.cons_append, List.nil_append, Nat.sub_zero, List.replicate, ↓reduceIte, reduceAdd, reduceSub, reduceMul, reduceLeDiff, reduceLT, reduceEqDiff, reduceNeg, Nat.reduceBEq, List.flatten_cons, List.flatten_nil, List.append_nil]
   have fs := ctr10 s hs
   have ft := few1 t ht
   have hk1 := ht.kids
   rcases bool_em (few s) with h1 | h1
   · rw [h1] at fs
     rcases bool_em (fewP 2600 [t]) with h2 | h2
     · rw [h2] at ft
       have hm := few_small h1
       have c1 := ctr331 s t hm hs ht
       rcases bool_em (validB s && plainV s t) with h3 | h3
       · rw [h3] at c1
         rw [Bool.and_eq_true] at h3
         obtain ⟨hv, hp⟩ := h3
         have hp2 := hp
         rw [plainV, Bool.and_eq_true] at hp2
         obtain ⟨x, hx⟩ := plain_sortV hv hp
         have c2 := ctr342 t ht
         have c3 := ctr332 s t hm hs ht
         have c4 := ctr329 s t hm hs ht
         have c5 := ctr242 t ht
         rw [varsR, hp2.1, if_pos rfl, plain_vars hp2.2] at c2
         rw [hx] at c3
         rw [fitsV, hp2.1, hv, plain_fits t hp2.2] at c4
         rw [hp2.1] at c5
         simp -implicitDefEqProofs (disch := omega) only [List.flatMap_cons, List.flatMap_nil, List.append_nil, List.length_cons, List.length_nil, rep1t, List.flatten_cons, List.flatten_nil, go_sem, ↓reduceIte, reduceAdd, reduceSub, reduceMul, reduceLeDiff, reduceLT, reduceEqDiff, reduceNeg, Nat.reduceBEq]
         (repeat' (first | refine gT ?_ ?_ | refine gF ?_ ?_ | refine gC ?_ ?_ | ((first | (refine c_ctrE (fs) ?_ ?_; (focus (simp -implicitDefEqProofs (disch := omega) only [List.flatMap_cons, List.flatMap_nil, List.append_nil, List.length_cons, List.length_nil, List.map_nil, rep1t, List.flatten_cons, List.flatten_nil, sortAV, eq_self, decide_true, avs, avb, avi, avo, sigCells, opCells, pairCells, elT, avt, termCells_eq, go_sem, ↓reduceIte, reduceAdd, reduceSub, reduceMul, reduceLeDiff, reduceLT, reduceEqDiff, reduceNeg, Nat.reduceBEq]; done))) | (refine c_ctrE (ft) ?_ ?_; (focus (simp -implicitDefEqProofs (disch := omega) only [List.flatMap_cons, List.flatMap_nil, List.append_nil, List.length_cons, List.length_nil, List.map_nil, rep1t, List.flatten_cons, List.flatten_nil, sortAV, eq_self, decide_true, avs, avb, avi, avo, sigCells, opCells, pairCells, elT, avt, termCells_eq, go_sem, ↓reduceIte, reduceAdd, reduceSub, reduceMul, reduceLeDiff, reduceLT, reduceEqDiff, reduceNeg, Nat.reduceBEq]; done))) | (refine c_ctrE (c1) ?_ ?_; (focus (simp -implicitDefEqProofs (disch := omega) only [List.flatMap_cons, List.flatMap_nil, List.append_nil, List.length_cons, List.length_nil, List.map_nil, rep1t, List.flatten_cons, List.flatten_nil, sortAV, eq_self, decide_true, avs, avb, avi, avo, sigCells, opCells, pairCells, elT, avt, termCells_eq, go_sem, ↓reduceIte, reduceAdd, reduceSub, reduceMul, reduceLeDiff, reduceLT, reduceEqDiff, reduceNeg, Nat.reduceBEq]; done))) | (refine c_ctrE (c2) ?_ ?_; (focus (simp -implicitDefEqProofs (disch := omega) only [List.flatMap_cons, List.flatMap_nil, List.append_nil, List.length_cons, List.length_nil, List.map_nil, rep1t, List.flatten_cons, List.flatten_nil, sortAV, eq_self, decide_true, avs, avb, avi, avo, sigCells, opCells, pairCells, elT, avt, termCells_eq, go_sem, ↓reduceIte, reduceAdd, reduceSub, reduceMul, reduceLeDiff, reduceLT, reduceEqDiff, reduceNeg, Nat.reduceBEq]; done))) | (refine c_ctrE (c3) ?_ ?_; (focus (simp -implicitDefEqProofs (disch := omega) only [List.flatMap_cons, List.flatMap_nil, List.append_nil, List.length_cons, List.length_nil, List.map_nil, rep1t, List.flatten_cons, List.flatten_nil, sortAV, eq_self, decide_true, avs, avb, avi, avo, sigCells, opCells, pairCells, elT, avt, termCells_eq, go_sem, ↓reduceIte, reduceAdd, reduceSub, reduceMul, reduceLeDiff, reduceLT, reduceEqDiff, reduceNeg, Nat.reduceBEq]; done)))); simp -implicitDefEqProofs (disch := omega) only [List.flatMap_cons, List.flatMap_nil, List.append_nil, List.length_cons, List.length_nil, List.map_nil, rep1t, List.flatten_cons, List.flatten_nil, sortAV, eq_self, decide_true, go_sem, ↓reduceIte, reduceAdd, reduceSub, reduceMul, reduceLeDiff, reduceLT, reduceEqDiff, reduceNeg, Nat.reduceBEq]) | refine And.intro (by omega) ?_ | (intro hr; have hc := hr; (try simp only [zda, zdb, zdc, zdd] at hc); simp -implicitDefEqProofs (disch := omega) only [hr, List.flatMap_cons, List.flatMap_nil, List.append_nil, List.length_cons, List.length_nil, List.map_nil, rep1t, List.flatten_cons, List.flatten_nil, sortAV, eq_self, decide_true, go_sem, ↓reduceIte, reduceAdd, reduceSub, reduceMul, reduceLeDiff, reduceLT, reduceEqDiff, reduceNeg, Nat.reduceBEq]; (try clear hr))))
         refine x_loopG (fun (k : Nat) => [.k, .k, .k, .k, .j, .k, .k, .k, .k, .k, .j, .k, .k, .k, .k, .k, .k, .k, .k, .k, .k, .k, .k, .k, .k, .k, .k, .k, .k, .k, .k, .k, .k, .k, .k, .k, .k, .k, .k, .k, .k, .v (.i .i64 (k : Nat)), .j, .j, .j, .j, .j, .j, .j, .j, .k, .k, .k, .k, .k, .k, .k, .k, .k, .k, .k, .k, .k, .k, .k, .k, .k, .k, .k, .k, .k, .k, .k]) (fun k => [.box false (sigCells s), .box false [.i .i64 (t).kind, .i .i64 (t).n, .s (t).text, .s (t).sort, .sl ((t).kids.flatMap termCells) (t).kids.length, .sl ((t).rest.flatMap termCells) (t).rest.length]]) (fun k => k ≤ t.kids.length) (fun k => t.kids.length - k) (0) _ (Nat.zero_le _) rfl (by simp [Fits]) ?_
         rintro k g j hk
         by_cases hlt : k < t.kids.length
         · have hki : (k : Int) < ((t.kids.length : Nat) : Int) := by omega
           have hmk := mem_getD (d := default) hlt
           have ck := ctr331 s (t.kids.getD k default) hm hs (ht.kid _ hmk)
           rw [hv, plain_kid hp hmk, Bool.and_self] at ck
           simp -implicitDefEqProofs (disch := omega) only [zt hki, go_sem, ↓reduceIte, reduceAdd, reduceSub, reduceMul, reduceLeDiff, reduceLT, reduceEqDiff, reduceNeg, Nat.reduceBEq]
           (repeat' (first | refine gT ?_ ?_ | refine gF ?_ ?_ | refine gC ?_ ?_ | ((refine c_ctrE (ck) ?_ ?_; (focus (simp -implicitDefEqProofs (disch := omega) only [zt hki, avs, avb, avi, avo, sigCells, opCells, pairCells, elT, avt, termCells_eq, go_sem, ↓reduceIte, reduceAdd, reduceSub, reduceMul, reduceLeDiff, reduceLT, reduceEqDiff, reduceNeg, Nat.reduceBEq]; done))); simp -implicitDefEqProofs (disch := omega) only [zt hki, go_sem, ↓reduceIte, reduceAdd, reduceSub, reduceMul, reduceLeDiff, reduceLT, reduceEqDiff, reduceNeg, Nat.reduceBEq]) | refine And.intro (by omega) ?_ | (intro hr; have hc := hr; (try simp only [zda, zdb, zdc, zdd] at hc); simp -implicitDefEqProofs (disch := omega) only [hr, zt hki, go_sem, ↓reduceIte, reduceAdd, reduceSub, reduceMul, reduceLeDiff, reduceLT, reduceEqDiff, reduceNeg, Nat.reduceBEq]; (try clear hr))))
           all_goals exact ⟨k + 1, _, by omega, by omega, rfl, by simp⟩
         · have hki : ¬ (k : Int) < ((t.kids.length : Nat) : Int) := by omega
           simp -implicitDefEqProofs (disch := omega) only [zf hki, go_sem, ↓reduceIte, reduceAdd, reduceSub, reduceMul, reduceLeDiff, reduceLT, reduceEqDiff, reduceNeg, Nat.reduceBEq]
           (repeat' (first | refine gT ?_ ?_ | refine gF ?_ ?_ | refine gC ?_ ?_ | ((first | (refine c_ctrE (c4) ?_ ?_; (focus (simp -implicitDefEqProofs (disch := omega) only [zf hki, List.length_nil, eq_self, decide_true, avs, avb, avi, avo, sigCells, opCells, pairCells, elT, avt, termCells_eq, go_sem, ↓reduceIte, reduceAdd, reduceSub, reduceMul, reduceLeDiff, reduceLT, reduceEqDiff, reduceNeg, Nat.reduceBEq]; done))) | (refine c_ctrE (c5) ?_ ?_; (focus (simp -implicitDefEqProofs (disch := omega) only [zf hki, List.length_nil, eq_self, decide_true, avs, avb, avi, avo, sigCells, opCells, pairCells, elT, avt, termCells_eq, go_sem, ↓reduceIte, reduceAdd, reduceSub, reduceMul, reduceLeDiff, reduceLT, reduceEqDiff, reduceNeg, Nat.reduceBEq]; done))) | (refine c_ctrE (ctr328) ?_ ?_; (focus (simp -implicitDefEqProofs (disch := omega) only [zf hki, List.length_nil, eq_self, decide_true, avs, avb, avi, avo, sigCells, opCells, pairCells, elT, avt, termCells_eq, go_sem, ↓reduceIte, reduceAdd, reduceSub, reduceMul, reduceLeDiff, reduceLT, reduceEqDiff, reduceNeg, Nat.reduceBEq]; done)))); simp -implicitDefEqProofs (disch := omega) only [zf hki, List.length_nil, eq_self, decide_true, go_sem, ↓reduceIte, reduceAdd, reduceSub, reduceMul, reduceLeDiff, reduceLT, reduceEqDiff, reduceNeg, Nat.reduceBEq]) | refine And.intro (by omega) ?_ | (intro hr; have hc := hr; (try simp only [zda, zdb, zdc, zdd] at hc); simp -implicitDefEqProofs (disch := omega) only [hr, zf hki, List.length_nil, eq_self, decide_true, go_sem, ↓reduceIte, reduceAdd, reduceSub, reduceMul, reduceLeDiff, reduceLT, reduceEqDiff, reduceNeg, Nat.reduceBEq]; (try clear hr))))
           all_goals exact fin_eq rfl rfl
       · rw [h3] at c1
         simp -implicitDefEqProofs (disch := omega) only [List.flatMap_cons, List.flatMap_nil, List.append_nil, List.length_cons, List.length_nil, rep1t, List.flatten_cons, List.flatten_nil, go_sem, ↓reduceIte, reduceAdd, reduceSub, reduceMul, reduceLeDiff, reduceLT, reduceEqDiff, reduceNeg, Nat.reduceBEq]
         (repeat' (first | refine gT ?_ ?_ | refine gF ?_ ?_ | refine gC ?_ ?_ | ((first | (refine c_ctrE (fs) ?_ ?_; (focus (simp -implicitDefEqProofs (disch := omega) only [List.flatMap_cons, List.flatMap_nil, List.append_nil, List.length_cons, List.length_nil, rep1t, List.flatten_cons, List.flatten_nil, avs, avb, avi, avo, sigCells, opCells, pairCells, elT, avt, termCells_eq, go_sem, ↓reduceIte, reduceAdd, reduceSub, reduceMul, reduceLeDiff, reduceLT, reduceEqDiff, reduceNeg, Nat.reduceBEq]; done))) | (refine c_ctrE (ft) ?_ ?_; (focus (simp -implicitDefEqProofs (disch := omega) only [List.flatMap_cons, List.flatMap_nil, List.append_nil, List.length_cons, List.length_nil, rep1t, List.flatten_cons, List.flatten_nil, avs, avb, avi, avo, sigCells, opCells, pairCells, elT, avt, termCells_eq, go_sem, ↓reduceIte, reduceAdd, reduceSub, reduceMul, reduceLeDiff, reduceLT, reduceEqDiff, reduceNeg, Nat.reduceBEq]; done))) | (refine c_ctrE (c1) ?_ ?_; (focus (simp -implicitDefEqProofs (disch := omega) only [List.flatMap_cons, List.flatMap_nil, List.append_nil, List.length_cons, List.length_nil, rep1t, List.flatten_cons, List.flatten_nil, avs, avb, avi, avo, sigCells, opCells, pairCells, elT, avt, termCells_eq, go_sem, ↓reduceIte, reduceAdd, reduceSub, reduceMul, reduceLeDiff, reduceLT, reduceEqDiff, reduceNeg, Nat.reduceBEq]; done))) | (refine c_ctrE (ctr328) ?_ ?_; (focus (simp -implicitDefEqProofs (disch := omega) only [List.flatMap_cons, List.flatMap_nil, List.append_nil, List.length_cons, List.length_nil, rep1t, List.flatten_cons, List.flatten_nil, avs, avb, avi, avo, sigCells, opCells, pairCells, elT, avt, termCells_eq, go_sem, ↓reduceIte, reduceAdd, reduceSub, reduceMul, reduceLeDiff, reduceLT, reduceEqDiff, reduceNeg, Nat.reduceBEq]; done)))); simp -implicitDefEqProofs (disch := omega) only [List.flatMap_cons, List.flatMap_nil, List.append_nil, List.length_cons, List.length_nil, rep1t, List.flatten_cons, List.flatten_nil, go_sem, ↓reduceIte, reduceAdd, reduceSub, reduceMul, reduceLeDiff, reduceLT, reduceEqDiff, reduceNeg, Nat.reduceBEq]) | refine And.intro (by omega) ?_ | (intro hr; have hc := hr; (try simp only [zda, zdb, zdc, zdd] at hc); simp -implicitDefEqProofs (disch := omega) only [hr, List.flatMap_cons, List.flatMap_nil, List.append_nil, List.length_cons, List.length_nil, rep1t, List.flatten_cons, List.flatten_nil, go_sem, ↓reduceIte, reduceAdd, reduceSub, reduceMul, reduceLeDiff, reduceLT, reduceEqDiff, reduceNeg, Nat.reduceBEq]; (try clear hr))))
         all_goals exact fin_eq rfl rfl
     · rw [h2] at ft
       simp -implicitDefEqProofs (disch := omega) only [List.flatMap_cons, List.flatMap_nil, List.append_nil, List.length_cons, List.length_nil, rep1t, List.flatten_cons, List.flatten_nil, go_sem, ↓reduceIte, reduceAdd, reduceSub, reduceMul, reduceLeDiff, reduceLT, reduceEqDiff, reduceNeg, Nat.reduceBEq]
       (repeat' (first | refine gT ?_ ?_ | refine gF ?_ ?_ | refine gC ?_ ?_ | ((first | (refine c_ctrE (fs) ?_ ?_; (focus (simp -implicitDefEqProofs (disch := omega) only [List.flatMap_cons, List.flatMap_nil, List.append_nil, List.length_cons, List.length_nil, rep1t, List.flatten_cons, List.flatten_nil, avs, avb, avi, avo, sigCells, opCells, pairCells, elT, avt, termCells_eq, go_sem, ↓reduceIte, reduceAdd, reduceSub, reduceMul, reduceLeDiff, reduceLT, reduceEqDiff, reduceNeg, Nat.reduceBEq]; done))) | (refine c_ctrE (ft) ?_ ?_; (focus (simp -implicitDefEqProofs (disch := omega) only [List.flatMap_cons, List.flatMap_nil, List.append_nil, List.length_cons, List.length_nil, rep1t, List.flatten_cons, List.flatten_nil, avs, avb, avi, avo, sigCells, opCells, pairCells, elT, avt, termCells_eq, go_sem, ↓reduceIte, reduceAdd, reduceSub, reduceMul, reduceLeDiff, reduceLT, reduceEqDiff, reduceNeg, Nat.reduceBEq]; done))) | (refine c_ctrE (ctr328) ?_ ?_; (focus (simp -implicitDefEqProofs (disch := omega) only [List.flatMap_cons, List.flatMap_nil, List.append_nil, List.length_cons, List.length_nil, rep1t, List.flatten_cons, List.flatten_nil, avs, avb, avi, avo, sigCells, opCells, pairCells, elT, avt, termCells_eq, go_sem, ↓reduceIte, reduceAdd, reduceSub, reduceMul, reduceLeDiff, reduceLT, reduceEqDiff, reduceNeg, Nat.reduceBEq]; done)))); simp -implicitDefEqProofs (disch := omega) only [List.flatMap_cons, List.flatMap_nil, List.append_nil, List.length_cons, List.length_nil, rep1t, List.flatten_cons, List.flatten_nil, go_sem, ↓reduceIte, reduceAdd, reduceSub, reduceMul, reduceLeDiff, reduceLT, reduceEqDiff, reduceNeg, Nat.reduceBEq]) | refine And.intro (by omega) ?_ | (intro hr; have hc := hr; (try simp only [zda, zdb, zdc, zdd] at hc); simp -implicitDefEqProofs (disch := omega) only [hr, List.flatMap_cons, List.flatMap_nil, List.append_nil, List.length_cons, List.length_nil, rep1t, List.flatten_cons, List.flatten_nil, go_sem, ↓reduceIte, reduceAdd, reduceSub, reduceMul, reduceLeDiff, reduceLT, reduceEqDiff, reduceNeg, Nat.reduceBEq]; (try clear hr))))
       all_goals exact fin_eq rfl rfl
   · rw [h1] at fs
     simp -implicitDefEqProofs (disch := omega) only [go_sem, ↓reduceIte, reduceAdd, reduceSub, reduceMul, reduceLeDiff, reduceLT, reduceEqDiff, reduceNeg, Nat.reduceBEq]
     (repeat' (first | refine gT ?_ ?_ | refine gF ?_ ?_ | refine gC ?_ ?_ | ((first | (refine c_ctrE (fs) ?_ ?_; (focus (simp -implicitDefEqProofs (disch := omega) only [avs, avb, avi, avo, sigCells, opCells, pairCells, elT, avt, termCells_eq, go_sem, ↓reduceIte, reduceAdd, reduceSub, reduceMul, reduceLeDiff, reduceLT, reduceEqDiff, reduceNeg, Nat.reduceBEq]; done))) | (refine c_ctrE (ctr328) ?_ ?_; (focus (simp -implicitDefEqProofs (disch := omega) only [avs, avb, avi, avo, sigCells, opCells, pairCells, elT, avt, termCells_eq, go_sem, ↓reduceIte, reduceAdd, reduceSub, reduceMul, reduceLeDiff, reduceLT, reduceEqDiff, reduceNeg, Nat.reduceBEq]; done)))); simp -implicitDefEqProofs (disch := omega) only [go_sem, ↓reduceIte, reduceAdd, reduceSub, reduceMul, reduceLeDiff, reduceLT, reduceEqDiff, reduceNeg, Nat.reduceBEq]) | refine And.intro (by omega) ?_ | (intro hr; have hc := hr; (try simp only [zda, zdb, zdc, zdd] at hc); simp -implicitDefEqProofs (disch := omega) only [hr, go_sem, ↓reduceIte, reduceAdd, reduceSub, reduceMul, reduceLeDiff, reduceLT, reduceEqDiff, reduceNeg, Nat.reduceBEq]; (try clear hr))))
     all_goals exact fin_eq rfl rfl
end Go.Proofs.YtnjnjdebgkjfhaaGreatDoor
