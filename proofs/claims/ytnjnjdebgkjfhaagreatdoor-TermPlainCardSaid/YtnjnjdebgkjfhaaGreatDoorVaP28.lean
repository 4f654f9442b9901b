/-
  What functions of the chapter return, as plain functions of what they are given; no condition beyond those that each theorem names.
-/
import Derived.Test.YtnjnjdebgkjfhaaGreatDoorVaP27
import Derived.Test.YtnjnjdebgkjfhaaGreatDoorSoP24
import Derived.Test.YtnjnjdebgkjfhaaGreatDoorSoP27
import Derived.Test.YtnjnjdebgkjfhaaGreatDoorVoP28
import Derived.Test.YtnjnjdebgkjfhaaGreatDoorVaP26
import Derived.Test.YtnjnjdebgkjfhaaGreatDoorVaP25
set_option maxRecDepth 100000
set_option linter.unusedSimpArgs false
set_option linter.unusedVariables false
set_option maxHeartbeats 4000000
namespace Go.Proofs.YtnjnjdebgkjfhaaGreatDoor
open Go Go.Vo
open Nat (reduceAdd reduceSub reduceMul reduceLeDiff reduceLT reduceEqDiff)
open Int (reduceNeg)

open Go.Sort Go.RowKit Go.Lib in
theorem compact_acalls {h : List AObj} {id : Nat} {l : List Str} {K : AV → List AObj → Prop} {nn : Nat} (hnn : l.length = nn) (hne : l ≠ []) (hl : l.length ≤ 1000000) (hcl : (Lib.compact l).length ≤ l.length) (hid : h[id]? = some (.arr false 1 (l.map .s))) (hK : K (.hs id 0 (Lib.compact l).length false) (h.set id (.arr false 1 ((Lib.compact l ++ List.replicate (l.length - (Lib.compact l).length) []).map .s)))) : ACalls Tryz.prog G0 134 [.hs id 0 nn false] h K := by
 subst hnn
 refine ⟨by kernel_rfl, ?_⟩
 intro X w vs g hlv hr
 obtain ⟨v0, rfl⟩ := one_of hlv
 have r0 := hr 0 _ v0 rfl rfl
 have hpos : 0 < l.length := List.length_pos_iff.2 hne
 have hn : l.length ≠ 0 := by omega
 generalize hm : l.length = m at r0 hn
 cases r0 with
 | dead hr hd _ => simp [AV.refs] at hr; subst hr; rw [hid] at hd; cases hd
 | hs0 => exact absurd rfl hn
 | @hs _ _ _ _ fz sz cells b o cap T N hid' hι hsh h1 h2 h3 h4 h5 =>
 rw [hid] at hid'; cases hid'
 subst hm
 have ok := g.objs _ _ hid
 cases ok with
 | absent h0 => rw [h0] at hι; cases hι
 | @arr _ _ _ b' o' cs T' fr h0 hb hf1 hf2 hle h1c hrc =>
 rw [h0] at hι; cases hι
 obtain ⟨hnF, rfl⟩ := hf2 rfl
 have hcell : ∀ j, j < l.length → cs[o + j]? = some (.string ⟨(l.getD j []).toArray⟩) := by
   intro j hj
   have hlen : (l.map AV.s).length = l.length := by simp
   have hc : cs[o + j]? = some cs[o + j] := Array.getElem?_eq_getElem (by omega)
   have := rv_s (hrc j (.s (l.getD j [])) _ (by simp [List.getD, hj]) hc)
   rw [hc, this]
 have hH : Holds encStr w b o l.toArray := by
   intro j hj
   have hj' : j < l.length := by simpa using hj
   refine ⟨?_, ?_⟩
   · simp only [World.cell?, hb, hcell j hj']
     simp [List.getD, hj']
   · simp [World.frozen?, hb]
 have hbs := lt_of_block hb
 generalize hL : Lib.compact l ++ List.replicate (l.length - (Lib.compact l).length) [] = L at hK
 have hLl : L.length = l.length := by rw [← hL, List.length_append, List.length_replicate]; omega
 refine (Tryz.slices_Compact_string b (o + 0) cap l w hH (by omega) h2).mono ?_
 rintro e w' ⟨rfl, n, rfl⟩
 rw [hL]
 have hcs : o + l.length ≤ cs.size := by simpa using hle
 obtain ⟨g1, t1⟩ := gh_same (w' := Go.Sort.ahead w n) g rfl rfl rfl rfl
 have hb1 : (Go.Sort.ahead w n).heap[b]? = some (.cells cs T' (0, 0)) := hb
 have hb2 : (putRow encStr (Go.Sort.ahead w n) b (o + 0) L.toArray).heap[b]? = some (.cells (putCells encStr (o + 0) L.toArray cs) T' (0, 0)) := by
   simp only [putRow, mapBlock, Array.getElem?_modify, if_true, hb1, Option.map_some, onCells]
 have hget : ∀ (j : Nat) (v : Value), j < L.length → (putCells encStr (o + 0) L.toArray cs)[o + j]? = some v → v = .string ⟨(L.getD j []).toArray⟩ := by
   intro j v hj hv
   have hsz : o + j < cs.size := by omega
   simp only [putCells, Array.getElem?_mapIdx, Array.getElem?_eq_getElem hsz, Option.map_some, Option.some.injEq] at hv
   rw [if_pos ⟨by omega, by simp; omega⟩] at hv
   rw [← hv]
   simp [show o + j - (o + 0) = j by omega, List.getD, hj]
 have hshp : ∀ sh, (Go.Sort.ahead w n).shape? b = some sh → (putRow encStr (Go.Sort.ahead w n) b (o + 0) L.toArray).shape? b = some sh := fun sh hsh => by
   simp only [World.shape?, hb1] at hsh
   simp only [World.shape?, hb2]
   rw [← hsh]; simp [putCells]
 obtain ⟨g2, t2⟩ := gh_store (w' := putRow encStr (Go.Sort.ahead w n) b (o + 0) L.toArray) (ob' := .arr false 1 (L.map .s)) g1 hid h0 hnF ⟨rfl, by simp [hLl]⟩ (by simp) rfl rfl rfl
   (fun k hk => by simp only [putRow, mapBlock, Array.getElem?_modify, if_neg (Ne.symm hk)])
   hshp
   (fun ee => by
     refine .arr (b := b) (o := o) h0 hb2 (fun f => by cases f) (fun _ => ⟨hnF, rfl⟩) (by simp [putCells, hLl]; omega) ?_ ?_
     · intro j v hj hv
       rw [hget j v (by simpa using hj) hv]; rfl
     · intro j a v ha hv
       have hj := lt_of_some ha
       rw [hget j v (by simpa using hj) hv]
       rw [map_s_get (by simpa using hj)] at ha
       cases ha
       exact .s _)
 have hlt := lt_of_some hid
 refine ⟨_, _, _, _, rfl, hK, g2, ?_, t1.trans t2⟩
 rw [show o + 0 = o by rfl]
 have hsh' := hshp _ (show (Go.Sort.ahead w n).shape? b = some (T, N) from hsh)
 exact RV.hs (off := 0) (sz := 1) (fz := false) (cells := L.map .s) (by rw [List.getElem?_set_self hlt]) h0 hsh' (by rw [List.length_map, hLl]; omega) (by omega) h3 (fun f => by cases f) (fun _ => by have := h5 rfl; rw [List.length_map] at this ⊢; rw [hLl]; exact this)
theorem sort_sl0 : CT 133 [.sl [] 0] (.tup []) := run_ctr mixed g0 knownT_ok howT (oks_of runsT_ok) 100 (by kernel_rfl)
theorem compact_sl0 : CT 134 [.sl [] 0] (.sl [] 0) := by
 refine ⟨by kernel_rfl, g0, ?_⟩
 intro F w vs hF hgl hl hr
 obtain ⟨v0, rfl⟩ := one_of hl
 have h0 := hr 0 _ v0 rfl rfl
 have key : ∃ a cap, v0 = .slice a 0 cap := by
   cases h0 with
   | dead hr hd _ => simp [AV.refs] at hr
   | sl0 a cap => exact ⟨a, cap, rfl⟩
   | sl => exact ⟨_, _, rfl⟩
 obtain ⟨a, cap, rfl⟩ := key
 refine (Tryz.slices_Compact_string_empty a cap w).mono ?_
 rintro e w' ⟨rfl, rfl⟩
 exact ⟨_, F, [], rfl, .refl _, fun _ h => h, fun _ h => .inl h, hF, RR.val (.sl0 _ _), List.nodup_nil, by simp⟩
def Stay (g g' : List AObj) : Prop := ∀ (i : Nat) (o : AObj), g[i]? = some o → (∀ c : List AV, o ≠ .arr false 1 c) → g'[i]? = some o
theorem Stay.refl (g : List AObj) : Stay g g := fun _ _ h _ => h
theorem Stay.trans {a b c : List AObj} (h : Stay a b) (k : Stay b c) : Stay a c := fun i o x y => k i o (h i o x y) y
theorem Stay.app (g m : List AObj) : Stay g (g ++ m) := fun i o x _ => by rw [List.getElem?_append_left (lt_of_some x)]; exact x
def addN (t : LTerm) (l : List Str) : List Str := if t.kind = 6 ∧ ¬ t.text = [95] then l ++ [t.text] else l
abbrev VarK (l' : List Str) (g : List AObj) : AV → List AObj → Prop := fun r h' => r = .tup [] ∧ ∃ out' g', h' = .box false [out'] :: g' ∧ OutIs 1 1 g' out' (l'.map .s) l'.length ∧ Stay g g'
theorem var1 (t : LTerm) (d : Int) (l : List Str) (out : AV) (g : List AObj) (ht : OkT t) (hl : l.length ≤ 1000000) (ho : OutIs 1 1 g out (l.map .s) l.length): ACalls Tryz.prog G0 132 [elT t, .i .i64 d, .ptr 0 0] (.box false [out] :: g) (VarK (addN t l) g) := by
 refine acalls_intro (rx := false) (th := fun _ => none) mixed Tryz.func132 rfl (by kernel_rfl) (by kernel_rfl) (ac := ?_) ?_ ?_
 rotate_left
 · simp only [strip, splitQ, stripOps, stripOp, hoist, List.filter_cons, List.filter_nil, List.nil_append, List.cons_append, isFree, anyPre, Region.binds, Bool.not_true, Bool.not_false, Bool.false_eq_true, if_true, if_false, Option.isNone_none, Option.isNone_some, Bool.true_and, Bool.false_and, List.map_nil, List.map_cons, List.isEmpty_nil, List.isEmpty_cons, List.append_nil]
   rfl
 · simp -implicitDefEqProofs (disch := omega) only [Tryz.f132, go_sem, List.replicate, ↓reduceIte, reduceAdd, reduceSub, reduceMul, reduceLeDiff, reduceLT, reduceEqDiff, reduceNeg, Nat.reduceBEq]
   (repeat' (first | refine gT ?_ ?_ | refine gF ?_ ?_ | refine gC ?_ ?_ | refine And.intro (by omega) ?_ | (intro hr; have hc := hr; (try simp only [zda, zdb, zdc, zdd] at hc); simp -implicitDefEqProofs (disch := omega) only [hr, go_sem, ↓reduceIte, reduceAdd, reduceSub, reduceMul, reduceLeDiff, reduceLT, reduceEqDiff, reduceNeg, Nat.reduceBEq]; (try clear hr))))
   · have e : addN t l = l ++ [t.text] := by rw [addN, if_pos (by simp_all)]
     rw [e]
     refine app_intro' (pre := [_]) (news := [.s t.text]) (m := 1) ho rfl rfl el22 zo9 sz9 by9 rfl (by decide) (by simp -implicitDefEqProofs (disch := omega) only [go_sem, ↓reduceIte, reduceAdd, reduceSub, reduceMul, reduceLeDiff, reduceLT, reduceEqDiff, reduceNeg, Nat.reduceBEq]) (by simp -implicitDefEqProofs (disch := omega) only [go_sem, ↓reduceIte, reduceAdd, reduceSub, reduceMul, reduceLeDiff, reduceLT, reduceEqDiff, reduceNeg, Nat.reduceBEq]) ⟨by omega, by omega⟩ ?_
     intro out' g' ho' hs
     rcases ho' with ⟨_, h0, _⟩ | ⟨i, rfl, hi, hil⟩
     · simp at h0
     · simp -implicitDefEqProofs (disch := omega) only [go_sem, ↓reduceIte, reduceAdd, reduceSub, reduceMul, reduceLeDiff, reduceLT, reduceEqDiff, reduceNeg, Nat.reduceBEq]
       exact ⟨rfl, _, g', rfl, by rw [List.map_append, List.length_append]; exact .inr ⟨i, rfl, hi, hil⟩, hs⟩
   all_goals
     have e : addN t l = l := by rw [addN, if_neg (by simp_all)]
     rw [e]
     exact ⟨rfl, out, _, rfl, ho.more _, .app _ _⟩
def VarP (l : List Str) (vs : List (LTerm × Int)) : Prop := l.length + vs.length ≤ 1000000 ∧ ∀ v ∈ vs, 0 ≤ v.2 ∧ v.2 ≤ 1000 ∧ v.1.kids.length + v.1.rest.length ≤ 1000000
def addV (v : LTerm × Int) (l : List Str) : List Str := addN v.1 l
theorem addN_len {t : LTerm} {l : List Str} : (addN t l).length ≤ l.length + 1 := by
 unfold addN; split
 · simp
 · omega
theorem VarP.step {l : List Str} {v : LTerm × Int} {vs : List (LTerm × Int)} (h : VarP l (v :: vs)) : VarP (addV v l) vs := by
 have := addN_len (t := v.1) (l := l)
 have h1 := h.1
 rw [List.length_cons] at h1
 exact ⟨by unfold addV; omega, fun x hx => h.2 x (by simp [hx])⟩
theorem VarP.all : ∀ {vs m : List (LTerm × Int)} {l : List Str}, VarP l (vs ++ m) → VarP (visR addV l vs) m
 | [], m, l, h => h
 | v :: vs, m, l, h => VarP.all (vs := vs) h.step
theorem wvar1 (t : LTerm) (d : Int) (l : List Str) (m : List (LTerm × Int)) (out : AV) (g : List AObj) (ht : OkT t) (ho : OutIs 1 1 g out (l.map .s) l.length) (hP : VarP l (vis t d ++ m)) (ih : ∀ k ∈ t.kids ++ t.rest, ∀ (d : Int) (l : List Str) (m : List (LTerm × Int)) (out : AV) (g : List AObj), OutIs 1 1 g out (l.map .s) l.length → VarP l (vis k d ++ m) → ACalls Tryz.prog G0 68 [elT k, .i .i64 d, .fn 132 [] [.ptr 0 0]] (.box false [out] :: g) (VarK (visR addV l (vis k d)) g)): ACalls Tryz.prog G0 68 [elT t, .i .i64 d, .fn 132 [] [.ptr 0 0]] (.box false [out] :: g) (VarK (visR addV l (vis t d)) g) := by
 refine acalls_intro (rx := false) (th := fun _ => none) mixed Tryz.func68 rfl (by kernel_rfl) (by kernel_rfl) (ac := ?_) ?_ ?_
 rotate_left
 · simp only [strip, splitQ, stripOps, stripOp, hoist, List.filter_cons, List.filter_nil, List.nil_append, List.cons_append, isFree, anyPre, Region.binds, Bool.not_true, Bool.not_false, Bool.false_eq_true, if_true, if_false, Option.isNone_none, Option.isNone_some, Bool.true_and, Bool.false_and, List.map_nil, List.map_cons, List.isEmpty_nil, List.isEmpty_cons, List.append_nil]
   rfl
 · simp -implicitDefEqProofs (disch := omega) only [Tryz.f68, go_sem, List.replicate, ↓reduceIte, reduceAdd, reduceSub, reduceMul, reduceLeDiff, reduceLT, reduceEqDiff, reduceNeg, Nat.reduceBEq]
   rw [vis_eq, List.cons_append] at hP
   obtain ⟨hd0, hd, hlen⟩ := hP.2 (t, d) (by simp)
   dsimp only at hd0 hd hlen
   have hl1 := hP.1
   rw [List.length_cons] at hl1
   have hP2 := hP.step
   have hr : visR addV l (vis t d) = visR addV (addN t l) (visL (t.kids ++ t.rest) (d + 1)) := by rw [vis_eq]; rfl
   rw [hr]
   have hoL : ∀ x ∈ t.kids ++ t.rest, OkT x := fun x hx => by
     rcases List.mem_append.1 hx with hx | hx
     · exact ht.kid x hx
     · exact ht.rst x hx
   have c : CT 131 [.sl [avt t.kids, avt t.rest] 2] (avt (t.kids ++ t.rest)) := by
     have := ctr268 [t.kids, t.rest] (by simp) (by simp [sumT]; omega)
     simpa using this
   have hLl : (t.kids ++ t.rest).length ≤ 1000000 := by rw [List.length_append]; exact hlen
   change VarP (addN t l) (visL (t.kids ++ t.rest) (d + 1) ++ m) at hP2
   have cv := var1 t d l out (g ++ [.box false [.i .i64 (t).kind, .i .i64 (t).n, .s (t).text, .s (t).sort, .sl ((t).kids.flatMap termCells) (t).kids.length, .sl ((t).rest.flatMap termCells) (t).rest.length]]) ht (by omega) (ho.more _)
   simp only [elT, termCells_eq, avt] at cv
   generalize t.kids ++ t.rest = L at *
   generalize addN t l = l1 at *
   (repeat' (first | refine gT ?_ ?_ | refine gF ?_ ?_ | refine gC ?_ ?_ | refine And.intro (by omega) ?_ | (intro hr; have hc := hr; (try simp only [zda, zdb, zdc, zdd] at hc); simp -implicitDefEqProofs (disch := omega) only [hr, go_sem, ↓reduceIte, reduceAdd, reduceSub, reduceMul, reduceLeDiff, reduceLT, reduceEqDiff, reduceNeg, Nat.reduceBEq]; (try clear hr))))
   refine c_acalls cv ?_
   rintro r h' ⟨rfl, out1, g1, rfl, ho1, hs1⟩
   have hb : g1[g.length]? = some (.box false [.i .i64 (t).kind, .i .i64 (t).n, .s (t).text, .s (t).sort, .sl ((t).kids.flatMap termCells) (t).kids.length, .sl ((t).rest.flatMap termCells) (t).rest.length]) := hs1 _ _ (by simp) (fun c h => by cases h)
   have hsg : Stay g g1 := (Stay.app g _).trans hs1
   simp -implicitDefEqProofs (disch := omega) only [hb, go_sem, ↓reduceIte, reduceAdd, reduceSub, reduceMul, reduceLeDiff, reduceLT, reduceEqDiff, reduceNeg, Nat.reduceBEq]
   (repeat' (first | refine gT ?_ ?_ | refine gF ?_ ?_ | refine gC ?_ ?_ | ((refine c_ctrE (c) ?_ ?_; (focus (simp -implicitDefEqProofs (disch := omega) only [hb, avs, avb, avi, avo, sigCells, opCells, pairCells, elT, avt, termCells_eq, go_sem, ↓reduceIte, reduceAdd, reduceSub, reduceMul, reduceLeDiff, reduceLT, reduceEqDiff, reduceNeg, Nat.reduceBEq]; done))); simp -implicitDefEqProofs (disch := omega) only [hb, go_sem, ↓reduceIte, reduceAdd, reduceSub, reduceMul, reduceLeDiff, reduceLT, reduceEqDiff, reduceNeg, Nat.reduceBEq]) | refine And.intro (by omega) ?_ | (intro hr; have hc := hr; (try simp only [zda, zdb, zdc, zdd] at hc); simp -implicitDefEqProofs (disch := omega) only [hr, hb, go_sem, ↓reduceIte, reduceAdd, reduceSub, reduceMul, reduceLeDiff, reduceLT, reduceEqDiff, reduceNeg, Nat.reduceBEq]; (try clear hr))))
   have hite : ∀ (c : Bool) (a : AObj) (n : Nat) (x : List AV), ∃ z, (if c = true then a :: (g1 ++ [AObj.arr false n x]) else a :: (g1 ++ [AObj.arr true n x])) = a :: (g1 ++ [z]) := fun c a n x => by cases c <;> exact ⟨_, rfl⟩
   obtain ⟨z, hz⟩ := hite ((List.flatMap termCells L).isEmpty && L.length == 0) (.box false [out1]) 1 [.sl (t.kids.flatMap termCells) t.kids.length, .sl (t.rest.flatMap termCells) t.rest.length]
   rw [hz]
   refine x_loopJ (fun (s : Nat × List Str × AV × List AObj) => [.k, .k, .k, .k, .k, .k, .k, .j, .k, .k, .k, .k, .k, .k, .k, .k, .k, .k, .k, .v (.i .i64 (s.1 : Nat)), .j, .j, .j, .j, .j, .j, .j, .j, .j]) (fun s => (.box false [s.2.2.1] :: s.2.2.2)) (fun s => s.1 ≤ L.length ∧ VarP s.2.1 (visL (L.drop s.1) (d + 1) ++ m) ∧ visR addV l1 (visL L (d + 1)) = visR addV s.2.1 (visL (L.drop s.1) (d + 1)) ∧ OutIs 1 1 s.2.2.2 s.2.2.1 (s.2.1.map .s) s.2.1.length ∧ Stay g s.2.2.2) (fun s => L.length - s.1) ((0, l1, out1, g1 ++ [z])) ⟨Nat.zero_le _, hP2, rfl, ho1.more _, hsg.trans (.app _ _)⟩ rfl (by simp [Fits]) ?_
   rintro ⟨k, l2, out2, g2⟩ j ⟨hk, hPk, he, ho2, hs2⟩
   dsimp only at hk hPk he ho2 hs2
   by_cases hlt : k < L.length
   · have hki : (k : Int) < ((L.length : Nat) : Int) := by omega
     rw [visL_at hlt, List.append_assoc] at hPk
     rw [visL_at hlt, visR_append] at he
     have hm := mem_getD (d := default) hlt
     have ci := ih _ hm (d + 1) l2 _ out2 (g2 ++ [.box false [.i .i64 (L.getD k default).kind, .i .i64 (L.getD k default).n, .s (L.getD k default).text, .s (L.getD k default).sort, .sl ((L.getD k default).kids.flatMap termCells) (L.getD k default).kids.length, .sl ((L.getD k default).rest.flatMap termCells) (L.getD k default).rest.length]]) (ho2.more _) hPk
     simp only [elT, termCells_eq, avt] at ci
     simp -implicitDefEqProofs (disch := omega) only [zt hki, go_sem, ↓reduceIte, reduceAdd, reduceSub, reduceMul, reduceLeDiff, reduceLT, reduceEqDiff, reduceNeg, Nat.reduceBEq]
     (repeat' (first | refine gT ?_ ?_ | refine gF ?_ ?_ | refine gC ?_ ?_ | refine And.intro (by omega) ?_ | (intro hr; have hc := hr; (try simp only [zda, zdb, zdc, zdd] at hc); simp -implicitDefEqProofs (disch := omega) only [hr, zt hki, go_sem, ↓reduceIte, reduceAdd, reduceSub, reduceMul, reduceLeDiff, reduceLT, reduceEqDiff, reduceNeg, Nat.reduceBEq]; (try clear hr))))
     refine c_acalls ci ?_
     rintro r h' ⟨rfl, out3, g3, rfl, ho3, hs3⟩
     simp -implicitDefEqProofs (disch := omega) only [go_sem, ↓reduceIte, reduceAdd, reduceSub, reduceMul, reduceLeDiff, reduceLT, reduceEqDiff, reduceNeg, Nat.reduceBEq]
     exact ⟨(k + 1, visR addV l2 (vis (L.getD k default) (d + 1)), out3, g3), ⟨by dsimp only; omega, hPk.all, he, ho3, hs2.trans ((Stay.app _ _).trans hs3)⟩, by dsimp only; omega, rfl, by simp⟩
   · have hki : ¬ (k : Int) < ((L.length : Nat) : Int) := by omega
     simp -implicitDefEqProofs (disch := omega) only [zf hki, go_sem, ↓reduceIte, reduceAdd, reduceSub, reduceMul, reduceLeDiff, reduceLT, reduceEqDiff, reduceNeg, Nat.reduceBEq]
     (repeat' (first | refine gT ?_ ?_ | refine gF ?_ ?_ | refine gC ?_ ?_ | refine And.intro (by omega) ?_ | (intro hr; have hc := hr; (try simp only [zda, zdb, zdc, zdd] at hc); simp -implicitDefEqProofs (disch := omega) only [hr, zf hki, go_sem, ↓reduceIte, reduceAdd, reduceSub, reduceMul, reduceLeDiff, reduceLT, reduceEqDiff, reduceNeg, Nat.reduceBEq]; (try clear hr))))
     rw [List.drop_of_length_le (by omega)] at he
     rw [he]
     exact ⟨rfl, out2, g2, rfl, ho2, hs2⟩
theorem wvar : ∀ (t : LTerm), OkT t → ∀ (d : Int) (l : List Str) (m : List (LTerm × Int)) (out : AV) (g : List AObj), OutIs 1 1 g out (l.map .s) l.length → VarP l (vis t d ++ m) → ACalls Tryz.prog G0 68 [elT t, .i .i64 d, .fn 132 [] [.ptr 0 0]] (.box false [out] :: g) (VarK (visR addV l (vis t d)) g) :=
 term_ind fun t hk hr ht d l m out g ho hP => wvar1 t d l m out g ht ho hP fun k hm => by
   rcases List.mem_append.1 hm with hm | hm
   · exact hk k hm (ht.kid k hm)
   · exact hr k hm (ht.rst k hm)
def namesV (t : LTerm) : List Str := visR addV [] (vis t 1)
def varsV (t : LTerm) : List Str := Lib.compact (sortS (namesV t))
theorem fin_win {H : List AObj} {id n off sz : Nat} {fz t : Bool} {cells : List AV} (hid : H[id]? = some (.arr fz sz cells)) (hw : off + n * sz ≤ cells.length) (hp : persL ((cells.drop off).take (n * sz)) = true) : Fin H (.hs id off n t) (.sl ((cells.drop off).take (n * sz)) n) := by
 have e1 : finOK H (.hs id off n t) (.sl ((cells.drop off).take (n * sz)) n) := by
   show AV.sl _ _ = snap dep H (.hs id off n t)
   simp only [snap_dep, pers, snapS, hid, hp, if_true, Bool.false_eq_true, if_false, if_pos hw]
 have e2 : finIds (.hs id off n t) (.sl ((cells.drop off).take (n * sz)) n) = [] := rfl
 exact .inr ⟨e1, by rw [e2]; exact List.nodup_nil, by rw [e2]; simp⟩
theorem ctr363 (t : LTerm) (ht : OkT t) (hv : validT nodeB t = true) (hcl : (varsV t).length ≤ (sortS (namesV t)).length): CT 71 [avt [t]] (avs (varsV t)) := by
 refine sem_introA mixed Tryz.func71 g0 ?_
 · simp -implicitDefEqProofs (disch := omega) only [Tryz.f71, go_sem, List.replicate, ↓reduceIte, reduceAdd, reduceSub, reduceMul, reduceLeDiff, reduceLT, reduceEqDiff, reduceNeg, Nat.reduceBEq, avs, avt]
   have hP := visP_of hv
   rw [List.append_nil] at hP
   have hP' : VarP [] (vis t 1 ++ []) := by rw [List.append_nil]; exact ⟨by have := hP.1; simp; omega, hP.2⟩
   (repeat' (first | refine gT ?_ ?_ | refine gF ?_ ?_ | refine gC ?_ ?_ | refine And.intro (by omega) ?_ | (intro hr; have hc := hr; (try simp only [zda, zdb, zdc, zdd] at hc); simp -implicitDefEqProofs (disch := omega) only [hr, go_sem, ↓reduceIte, reduceAdd, reduceSub, reduceMul, reduceLeDiff, reduceLT, reduceEqDiff, reduceNeg, Nat.reduceBEq]; (try clear hr))))
   refine x_loopJ (fun (s : Nat × List Str × AV × List AObj) => [.k, .k, .k, .k, .k, .j, .k, .k, .v (.i .i64 (s.1 : Nat)), .j, .j, .j, .j, .j, .j, .j, .k, .k, .k, .k]) (fun s => (.box false [s.2.2.1] :: s.2.2.2)) (fun s => s.1 ≤ 1 ∧ (s.1 = 0 → s.2.1 = []) ∧ (s.1 = 1 → s.2.1 = namesV t) ∧ OutIs 1 1 s.2.2.2 s.2.2.1 (s.2.1.map .s) s.2.1.length) (fun s => 1 - s.1) ((0, [], .e0, [])) ⟨Nat.zero_le _, fun _ => rfl, fun h => (by cases h), outIs_e0⟩ rfl (by simp [Fits]) ?_
   rintro ⟨k, l, out, g⟩ j ⟨hk, h0, h1, ho⟩
   dsimp only at hk h0 h1 ho
   have h01 : ((0 : Int) < ((1 : Nat) : Int)) = True := eq_true (by decide)
   have h11 : (((1 : Nat) : Int) < ((1 : Nat) : Int)) = False := eq_false (by decide)
   have ev0 : namesV t = [] → varsV t = [] := fun en => by rw [varsV, en]; simp [sortS]; rfl
   rcases (by omega : k = 0 ∨ k = 1) with rfl | rfl
   · obtain rfl := h0 rfl
     have cw := wvar t ht 1 [] [] out (g ++ [.box false [.i .i64 (t).kind, .i .i64 (t).n, .s (t).text, .s (t).sort, .sl ((t).kids.flatMap termCells) (t).kids.length, .sl ((t).rest.flatMap termCells) (t).rest.length]]) (ho.more _) hP'
     simp only [elT, termCells_eq, avt] at cw
     simp -implicitDefEqProofs (disch := omega) only [List.flatMap_cons, List.flatMap_nil, List.append_nil, termCells_eq, avt, h01, decide_true, go_sem, ↓reduceIte, reduceAdd, reduceSub, reduceMul, reduceLeDiff, reduceLT, reduceEqDiff, reduceNeg, Nat.reduceBEq]
     (repeat' (first | refine gT ?_ ?_ | refine gF ?_ ?_ | refine gC ?_ ?_ | refine And.intro (by omega) ?_ | (intro hr; have hc := hr; (try simp only [zda, zdb, zdc, zdd] at hc); simp -implicitDefEqProofs (disch := omega) only [hr, List.flatMap_cons, List.flatMap_nil, List.append_nil, termCells_eq, avt, h01, decide_true, go_sem, ↓reduceIte, reduceAdd, reduceSub, reduceMul, reduceLeDiff, reduceLT, reduceEqDiff, reduceNeg, Nat.reduceBEq]; (try clear hr))))
     refine c_acalls cw ?_
     rintro r h' ⟨rfl, out3, g3, rfl, ho3, hs3⟩
     simp -implicitDefEqProofs (disch := omega) only [go_sem, ↓reduceIte, reduceAdd, reduceSub, reduceMul, reduceLeDiff, reduceLT, reduceEqDiff, reduceNeg, Nat.reduceBEq]
     exact ⟨(1, namesV t, out3, g3), ⟨Nat.le_refl _, fun h => (by cases h), fun _ => rfl, ho3⟩, by simp, rfl, by simp⟩
   · obtain rfl := h1 rfl
     have hnl : (namesV t).length ≤ 1000000 := by
       have := (VarP.all (vs := vis t 1) (m := []) (l := []) hP').1
       simpa [namesV] using this
     rcases ho with ⟨rfl, e1, e2⟩ | ⟨i, rfl, hi, hil⟩
     · rw [ev0 (List.length_eq_zero_iff.1 e2)]
       simp -implicitDefEqProofs (disch := omega) only [h11, decide_false, go_sem, ↓reduceIte, reduceAdd, reduceSub, reduceMul, reduceLeDiff, reduceLT, reduceEqDiff, reduceNeg, Nat.reduceBEq]
       (repeat' (first | refine gT ?_ ?_ | refine gF ?_ ?_ | refine gC ?_ ?_ | ((first | (refine c_ctrE (sort_sl0) ?_ ?_; (focus (simp -implicitDefEqProofs (disch := omega) only [h11, decide_false, avs, avb, avi, avo, sigCells, opCells, pairCells, elT, avt, termCells_eq, go_sem, ↓reduceIte, reduceAdd, reduceSub, reduceMul, reduceLeDiff, reduceLT, reduceEqDiff, reduceNeg, Nat.reduceBEq]; done))) | (refine c_ctrE (compact_sl0) ?_ ?_; (focus (simp -implicitDefEqProofs (disch := omega) only [h11, decide_false, avs, avb, avi, avo, sigCells, opCells, pairCells, elT, avt, termCells_eq, go_sem, ↓reduceIte, reduceAdd, reduceSub, reduceMul, reduceLeDiff, reduceLT, reduceEqDiff, reduceNeg, Nat.reduceBEq]; done)))); simp -implicitDefEqProofs (disch := omega) only [h11, decide_false, go_sem, ↓reduceIte, reduceAdd, reduceSub, reduceMul, reduceLeDiff, reduceLT, reduceEqDiff, reduceNeg, Nat.reduceBEq]) | refine And.intro (by omega) ?_ | (intro hr; have hc := hr; (try simp only [zda, zdb, zdc, zdd] at hc); simp -implicitDefEqProofs (disch := omega) only [hr, h11, decide_false, go_sem, ↓reduceIte, reduceAdd, reduceSub, reduceMul, reduceLeDiff, reduceLT, reduceEqDiff, reduceNeg, Nat.reduceBEq]; (try clear hr))))
       all_goals exact fin_eq rfl (by simp only [pers, persL])
     · by_cases en : namesV t = []
       · rw [ev0 en]
         rw [en] at hi ⊢
         simp -implicitDefEqProofs (disch := omega) only [h11, decide_false, go_sem, ↓reduceIte, reduceAdd, reduceSub, reduceMul, reduceLeDiff, reduceLT, reduceEqDiff, reduceNeg, Nat.reduceBEq]
         (repeat' (first | refine gT ?_ ?_ | refine gF ?_ ?_ | refine gC ?_ ?_ | ((first | (refine c_ctrE (sort_sl0) ?_ ?_; (focus (simp -implicitDefEqProofs (disch := omega) only [hi, List.map_nil, List.length_nil, h11, decide_false, avs, avb, avi, avo, sigCells, opCells, pairCells, elT, avt, termCells_eq, go_sem, ↓reduceIte, reduceAdd, reduceSub, reduceMul, reduceLeDiff, reduceLT, reduceEqDiff, reduceNeg, Nat.reduceBEq]; done))) | (refine c_ctrE (compact_sl0) ?_ ?_; (focus (simp -implicitDefEqProofs (disch := omega) only [hi, List.map_nil, List.length_nil, h11, decide_false, avs, avb, avi, avo, sigCells, opCells, pairCells, elT, avt, termCells_eq, go_sem, ↓reduceIte, reduceAdd, reduceSub, reduceMul, reduceLeDiff, reduceLT, reduceEqDiff, reduceNeg, Nat.reduceBEq]; done)))); simp -implicitDefEqProofs (disch := omega) only [hi, List.map_nil, List.length_nil, h11, decide_false, go_sem, ↓reduceIte, reduceAdd, reduceSub, reduceMul, reduceLeDiff, reduceLT, reduceEqDiff, reduceNeg, Nat.reduceBEq]) | refine And.intro (by omega) ?_ | (intro hr; have hc := hr; (try simp only [zda, zdb, zdc, zdd] at hc); simp -implicitDefEqProofs (disch := omega) only [hr, hi, List.map_nil, List.length_nil, h11, decide_false, go_sem, ↓reduceIte, reduceAdd, reduceSub, reduceMul, reduceLeDiff, reduceLT, reduceEqDiff, reduceNeg, Nat.reduceBEq]; (try clear hr))))
         all_goals exact fin_eq rfl (by simp only [pers, persL])
       · have hsl : (sortS (namesV t)).length = (namesV t).length := by simp [sortS]
         have hsn : sortS (namesV t) ≠ [] := fun h => en (List.length_eq_zero_iff.1 (by rw [← hsl, h]; rfl))
         have hlt := lt_of_some hi
         have hlv : (varsV t ++ List.replicate ((sortS (namesV t)).length - (varsV t).length) []).length = (sortS (namesV t)).length := by rw [List.length_append, List.length_replicate]; omega
         simp -implicitDefEqProofs (disch := omega) only [h11, decide_false, go_sem, ↓reduceIte, reduceAdd, reduceSub, reduceMul, reduceLeDiff, reduceLT, reduceEqDiff, reduceNeg, Nat.reduceBEq]
         refine sort_acalls en hnl (by simpa using hi) ?_
         simp -implicitDefEqProofs (disch := omega) only [go_sem, ↓reduceIte, reduceAdd, reduceSub, reduceMul, reduceLeDiff, reduceLT, reduceEqDiff, reduceNeg, Nat.reduceBEq]
         refine compact_acalls hsl hsn (by omega) hcl (by simp [hlt]) ?_
         simp -implicitDefEqProofs (disch := omega) only [go_sem, ↓reduceIte, reduceAdd, reduceSub, reduceMul, reduceLeDiff, reduceLT, reduceEqDiff, reduceNeg, Nat.reduceBEq]
         have hf := fin_win (H := ((AObj.box false [AV.hs (i + 1) 0 (namesV t).length false] :: g).set (i + 1) (.arr false 1 ((sortS (namesV t)).map .s))).set (i + 1) (.arr false 1 ((varsV t ++ List.replicate ((sortS (namesV t)).length - (varsV t).length) []).map .s))) (fz := false) (cells := (varsV t ++ List.replicate ((sortS (namesV t)).length - (varsV t).length) []).map .s) (id := i + 1) (n := (varsV t).length) (off := 0) (t := false) (sz := 1) (by simp [hlt]) (by rw [List.length_map]; omega) (by rw [List.drop_zero, Nat.mul_one, take_map]; exact persL_s)
         rw [List.drop_zero, Nat.mul_one, take_map, List.take_left] at hf
         exact hf

theorem lt_le {x y : Str} (h : x < y) : x ≤ y := List.le_of_lt h
theorem lt_irr {x : Str} : ¬ x < x := List.lt_irrefl x
theorem le_lt {x y z : Str} (h : x ≤ y) (k : y < z) : x < z := by
 rw [← List.not_le] at k ⊢
 exact fun q => k (List.le_trans q h)
theorem lt_le_t {x y z : Str} (h : x < y) (k : y ≤ z) : x < z := by
 rw [← List.not_le] at h ⊢
 exact fun q => h (List.le_trans k q)
theorem ne_lt {x y : Str} (h : x ≤ y) (k : x ≠ y) : x < y := by
 rw [← List.not_le]
 exact fun q => k (List.le_antisymm h q)
theorem up_ext {l m : List Str} (hl : l.Pairwise (· < ·)) (hm : m.Pairwise (· < ·)) (h : ∀ x, x ∈ l ↔ x ∈ m) : l = m := by
 have nd : ∀ {l : List Str}, l.Pairwise (· < ·) → l.Nodup := fun h => h.imp fun hab e => by subst e; exact lt_irr hab
 have p := (List.perm_ext_iff_of_nodup (nd hl) (nd hm)).2 h
 exact List.Perm.eq_of_pairwise (le := fun x y : Str => x ≤ y) (fun a b _ _ h1 h2 => List.le_antisymm h1 h2) (hl.imp lt_le) (hm.imp lt_le) p
theorem sortS_up (l : List Str) : (sortS l).Pairwise (· ≤ ·) := by
 have := List.pairwise_mergeSort (le := fun x y : Str => decide (x ≤ y)) (fun a b c h1 h2 => by simp only [decide_eq_true_eq] at *; exact List.le_trans h1 h2) (fun a b => by simp only [Bool.or_eq_true, decide_eq_true_eq]; exact List.le_total a b) l
 simpa [sortS] using this
theorem sortS_mem {l : List Str} {x : Str} : x ∈ sortS l ↔ x ∈ l := (List.mergeSort_perm l _).mem_iff
theorem comp_spec (d : Array Str) (hs : ∀ i j, i < j → j < d.size → d[i]! ≤ d[j]!) : ∀ m, m ≤ d.size → (∀ x, x ∈ Lib.compactUpTo d m ↔ ∃ j, j < m ∧ d[j]! = x) ∧ (Lib.compactUpTo d m).Pairwise (· < ·) ∧ (Lib.compactUpTo d m).length ≤ m := by
 intro m
 induction m with
 | zero => intro _; refine ⟨fun x => ⟨fun h => by simp [Lib.compactUpTo] at h, fun ⟨j, h, _⟩ => by omega⟩, by simp [Lib.compactUpTo], by simp [Lib.compactUpTo]⟩
 | succ m ih =>
   intro hm
   obtain ⟨i1, i2, i3⟩ := ih (by omega)
   rw [Lib.compactUpTo_succ]
   by_cases hk : Lib.keeps d m = true
   · rw [if_pos hk]
     refine ⟨fun x => ?_, ?_, by simp; omega⟩
     · rw [List.mem_append, i1, List.mem_singleton]
       constructor
       · rintro (⟨j, h, e⟩ | rfl)
         · exact ⟨j, by omega, e⟩
         · exact ⟨m, by omega, rfl⟩
       · rintro ⟨j, h, e⟩
         by_cases hj : j = m
         · subst hj; exact .inr e.symm
         · exact .inl ⟨j, by omega, e⟩
     · rw [List.pairwise_append]
       refine ⟨i2, by simp, fun x hx y hy => ?_⟩
       rw [List.mem_singleton] at hy
       subst hy
       obtain ⟨j, hj, rfl⟩ := (i1 x).1 hx
       have hm0 : 0 < m := by omega
       have h1 : d[m - 1]! ≤ d[m]! := hs (m - 1) m (by omega) (by omega)
       have h2 : d[m - 1]! ≠ d[m]! := fun e => by rw [Lib.keeps_neg hm0 e.symm] at hk; cases hk
       by_cases hj2 : j = m - 1
       · subst hj2; exact ne_lt h1 h2
       · exact le_lt (hs j (m - 1) (by omega) (by omega)) (ne_lt h1 h2)
   · rw [if_neg hk, List.append_nil]
     have hm0 : 0 < m := by
       rcases Nat.eq_zero_or_pos m with h | h
       · subst h; exact absurd (Lib.keeps_lt_one d 0 (by omega)) hk
       · exact h
     have he : d[m]! = d[m - 1]! := Decidable.byContradiction fun h => hk (Lib.keeps_pos h)
     refine ⟨fun x => ?_, i2, by omega⟩
     rw [i1]
     constructor
     · rintro ⟨j, h, e⟩; exact ⟨j, by omega, e⟩
     · rintro ⟨j, h, e⟩
       by_cases hj : j = m
       · rw [hj] at e; exact ⟨m - 1, by omega, by rw [← he]; exact e⟩
       · exact ⟨j, by omega, e⟩
theorem comp_up {l : List Str} (hs : l.Pairwise (· ≤ ·)) : (∀ x, x ∈ Lib.compact l ↔ x ∈ l) ∧ (Lib.compact l).Pairwise (· < ·) ∧ (Lib.compact l).length ≤ l.length := by
 have h : ∀ i j, i < j → j < l.toArray.size → l.toArray[i]! ≤ l.toArray[j]! := fun i j hij hj => by
   have hj' : j < l.length := by simpa using hj
   have := List.pairwise_iff_getElem.1 hs i j (by omega) hj' hij
   simpa [getElem!_pos, show i < l.length by omega, hj'] using this
 obtain ⟨a, b, c⟩ := comp_spec l.toArray h l.length (by simp)
 refine ⟨fun x => ?_, b, c⟩
 rw [Lib.compact, a, List.mem_iff_getElem]
 constructor
 · rintro ⟨j, hj, e⟩; exact ⟨j, hj, by simpa [getElem!_pos, hj] using e⟩
 · rintro ⟨j, hj, e⟩; exact ⟨j, hj, by simpa [getElem!_pos, hj] using e⟩
theorem varsV_up (t : LTerm) : (∀ x, x ∈ varsV t ↔ x ∈ namesV t) ∧ (varsV t).Pairwise (· < ·) ∧ (varsV t).length ≤ (sortS (namesV t)).length := by
 obtain ⟨a, b, c⟩ := comp_up (sortS_up (namesV t))
 exact ⟨fun x => by rw [varsV, a, sortS_mem], b, c⟩
def varsR (t : LTerm) : AV := if validT nodeB t then .tup [avs (varsV t), .i .i64 0] else .tup [avs [], .i .i64 2]
theorem fin_e2 {H : List AObj} {e : Int} : Fin H (.tup [.e0, .i .i64 e]) (.tup [avs [], .i .i64 e]) := .inr ⟨⟨rfl, rfl, trivial⟩, by simp [avs, finIds, finIdsL], by simp [avs, finIds, finIdsL]⟩
theorem ctr342 (t : LTerm) (ht : OkT t): CT 34 [elT t] (varsR t) := by
 refine sem_introA mixed Tryz.func34 g0 ?_
 · generalize hR : ((varsR t) : AV) = R
   simp -implicitDefEqProofs (disch := omega) only [Tryz.f34, go_sem, List.replicate, ↓reduceIte, reduceAdd, reduceSub, reduceMul, reduceLeDiff, reduceLT, reduceEqDiff, reduceNeg, Nat.reduceBEq]
   have c := ctr242 t ht
   cases hv : validT nodeB t with
   | false =>
     rw [hv] at c
     (repeat' (first | refine gT ?_ ?_ | refine gF ?_ ?_ | refine gC ?_ ?_ | ((refine c_ctrE (c) ?_ ?_; (focus (simp -implicitDefEqProofs (disch := omega) only [avs, avb, avi, avo, sigCells, opCells, pairCells, elT, avt, termCells_eq, go_sem, ↓reduceIte, reduceAdd, reduceSub, reduceMul, reduceLeDiff, reduceLT, reduceEqDiff, reduceNeg, Nat.reduceBEq]; done))); simp -implicitDefEqProofs (disch := omega) only [go_sem, ↓reduceIte, reduceAdd, reduceSub, reduceMul, reduceLeDiff, reduceLT, reduceEqDiff, reduceNeg, Nat.reduceBEq]) | refine And.intro (by omega) ?_ | (intro hr; have hc := hr; (try simp only [zda, zdb, zdc, zdd] at hc); simp -implicitDefEqProofs (disch := omega) only [hr, go_sem, ↓reduceIte, reduceAdd, reduceSub, reduceMul, reduceLeDiff, reduceLT, reduceEqDiff, reduceNeg, Nat.reduceBEq]; (try clear hr))))
     subst hR
     rw [varsR, hv]
     exact fin_e2
   | true =>
     rw [hv] at c
     have c2 := ctr363 t ht hv (varsV_up t).2.2
     (repeat' (first | refine gT ?_ ?_ | refine gF ?_ ?_ | refine gC ?_ ?_ | ((first | (refine c_ctrE (c) ?_ ?_; (focus (simp -implicitDefEqProofs (disch := omega) only [List.flatMap_cons, List.flatMap_nil, List.append_nil, List.length_cons, List.length_nil, rep1t, List.flatten_cons, List.flatten_nil, avs, avb, avi, avo, sigCells, opCells, pairCells, elT, avt, termCells_eq, go_sem, ↓reduceIte, reduceAdd, reduceSub, reduceMul, reduceLeDiff, reduceLT, reduceEqDiff, reduceNeg, Nat.reduceBEq]; done))) | (refine c_ctrE (c2) ?_ ?_; (focus (simp -implicitDefEqProofs (disch := omega) only [List.flatMap_cons, List.flatMap_nil, List.append_nil, List.length_cons, List.length_nil, rep1t, List.flatten_cons, List.flatten_nil, avs, avb, avi, avo, sigCells, opCells, pairCells, elT, avt, termCells_eq, go_sem, ↓reduceIte, reduceAdd, reduceSub, reduceMul, reduceLeDiff, reduceLT, reduceEqDiff, reduceNeg, Nat.reduceBEq]; done)))); simp -implicitDefEqProofs (disch := omega) only [List.flatMap_cons, List.flatMap_nil, List.append_nil, List.length_cons, List.length_nil, rep1t, List.flatten_cons, List.flatten_nil, go_sem, ↓reduceIte, reduceAdd, reduceSub, reduceMul, reduceLeDiff, reduceLT, reduceEqDiff, reduceNeg, Nat.reduceBEq]) | refine And.intro (by omega) ?_ | (intro hr; have hc := hr; (try simp only [zda, zdb, zdc, zdd] at hc); simp -implicitDefEqProofs (disch := omega) only [hr, List.flatMap_cons, List.flatMap_nil, List.append_nil, List.length_cons, List.length_nil, rep1t, List.flatten_cons, List.flatten_nil, go_sem, ↓reduceIte, reduceAdd, reduceSub, reduceMul, reduceLeDiff, reduceLT, reduceEqDiff, reduceNeg, Nat.reduceBEq]; (try clear hr))))
     subst hR
     rw [varsR, hv]
     exact fin_eq rfl (by simp only [pers, persL, avs, persL_s, Bool.and_self])
def addS (l : List Str) (s : Str) : List Str := if s ∈ l then l else l.filter (fun x => decide (x < s)) ++ s :: l.filter (fun x => decide (s < x))
theorem addS_mem {l : List Str} {s x : Str} : x ∈ addS l s ↔ x ∈ l ∨ x = s := by
 unfold addS
 split
 · rename_i h
   constructor
   · exact .inl
   · rintro (h | rfl) <;> assumption
 · rename_i h
   simp only [List.mem_append, List.mem_filter, List.mem_cons, decide_eq_true_eq]
   constructor
   · rintro (⟨a, _⟩ | rfl | ⟨a, _⟩)
     · exact .inl a
     · exact .inr rfl
     · exact .inl a
   · rintro (a | rfl)
     · by_cases h1 : x < s
       · exact .inl ⟨a, h1⟩
       · by_cases h2 : s < x
         · exact .inr (.inr ⟨a, h2⟩)
         · exact .inr (.inl (List.le_antisymm (List.not_lt.1 h2) (List.not_lt.1 h1)))
     · exact .inr (.inl rfl)
theorem addS_up {l : List Str} {s : Str} (h : l.Pairwise (· < ·)) : (addS l s).Pairwise (· < ·) := by
 unfold addS
 split
 · exact h
 · rw [List.pairwise_append, List.pairwise_cons]
   refine ⟨h.filter _, ⟨fun y hy => ?_, h.filter _⟩, fun x hx y hy => ?_⟩
   · simpa using (List.mem_filter.1 hy).2
   · have h1 : x < s := by simpa using (List.mem_filter.1 hx).2
     rcases List.mem_cons.1 hy with rfl | hy
     · exact h1
     · exact lt_le_t h1 (lt_le (by simpa using (List.mem_filter.1 hy).2))
theorem addS_len {l : List Str} {s : Str} : (addS l s).length ≤ l.length + 1 := by
 unfold addS
 split
 · omega
 · rename_i hn
   have : ∀ l : List Str, (l.filter fun x => decide (x < s)).length + (l.filter fun x => decide (s < x)).length ≤ l.length := by
     intro l
     induction l with
     | nil => simp
     | cons x l ih =>
       rw [List.filter_cons, List.filter_cons]
       by_cases h1 : x < s
       · have h2 : ¬ s < x := fun h => lt_irr (lt_le_t h (lt_le h1))
         simp [h1, h2]; omega
       · by_cases h2 : s < x
         · simp [h1, h2]; omega
         · simp [h1, h2]; omega
   have := this l
   simp; omega
theorem addS_at {l : List Str} {s : Str} {k : Nat} (hk : k ≤ l.length) (h1 : ∀ j, j < k → l.getD j [] < s) (h2 : ∀ j, k ≤ j → j < l.length → s ≤ l.getD j []) (h3 : ¬ (k < l.length ∧ l.getD k [] = s)) (hu : l.Pairwise (· < ·)) : addS l s = l.take k ++ s :: l.drop k := by
 have g : ∀ j (h : j < l.length), l.getD j [] = l[j] := fun j h => by simp [List.getD, h]
 have h2' : ∀ j, k ≤ j → j < l.length → s < l.getD j [] := fun j a b => by
   refine ne_lt (h2 j a b) fun e => ?_
   by_cases hj : j = k
   · subst hj; exact h3 ⟨b, e.symm⟩
   · have hlt := List.pairwise_iff_getElem.1 hu k j (by omega) b (by omega)
     rw [← g k (by omega), ← g j b, ← e] at hlt
     exact lt_irr (lt_le_t hlt (h2 k (Nat.le_refl _) (by omega)))
 have hn : s ∉ l := fun hm => by
   obtain ⟨j, hj, e⟩ := List.mem_iff_getElem.1 hm
   rw [← g j hj] at e
   by_cases hjk : j < k
   · have := h1 j hjk; rw [e] at this; exact lt_irr this
   · have := h2' j (by omega) hj; rw [e] at this; exact lt_irr this
 have a1 : (l.take k).filter (fun x => decide (x < s)) = l.take k := List.filter_eq_self.2 fun x hx => by
   obtain ⟨j, hj, e⟩ := List.mem_iff_getElem.1 hx
   rw [List.length_take] at hj
   rw [List.getElem_take] at e
   rw [← e, ← g j (by omega)]; exact zt (h1 j (by omega))
 have a2 : (l.drop k).filter (fun x => decide (x < s)) = [] := List.filter_eq_nil_iff.2 fun x hx => by
   obtain ⟨j, hj, e⟩ := List.mem_iff_getElem.1 hx
   rw [List.length_drop] at hj
   rw [List.getElem_drop] at e
   rw [← e, ← g (k + j) (by omega)]
   have := h2' (k + j) (by omega) (by omega)
   simp only [decide_eq_true_eq]; exact fun h => lt_irr (lt_le_t h (lt_le this))
 have b1 : (l.take k).filter (fun x => decide (s < x)) = [] := List.filter_eq_nil_iff.2 fun x hx => by
   obtain ⟨j, hj, e⟩ := List.mem_iff_getElem.1 hx
   rw [List.length_take] at hj
   rw [List.getElem_take] at e
   rw [← e, ← g j (by omega)]
   have := h1 j (by omega)
   simp only [decide_eq_true_eq]; exact fun h => lt_irr (lt_le_t h (lt_le this))
 have b2 : (l.drop k).filter (fun x => decide (s < x)) = l.drop k := List.filter_eq_self.2 fun x hx => by
   obtain ⟨j, hj, e⟩ := List.mem_iff_getElem.1 hx
   rw [List.length_drop] at hj
   rw [List.getElem_drop] at e
   rw [← e, ← g (k + j) (by omega)]; exact zt (h2' (k + j) (by omega) (by omega))
 have c1 : l.filter (fun x => decide (x < s)) = l.take k := by
   conv => lhs; rw [← List.take_append_drop k l]
   rw [List.filter_append, a1, a2, List.append_nil]
 have c2 : l.filter (fun x => decide (s < x)) = l.drop k := by
   conv => lhs; rw [← List.take_append_drop k l]
   rw [List.filter_append, b1, b2, List.nil_append]
 rw [addS, if_neg hn, c1, c2]

abbrev AddK (l' : List Str) (h : List AObj) : AV → List AObj → Prop := fun r h' => OutIs 1 0 h' r (l'.map .s) l'.length ∧ Stay h h'
theorem add_e0 (s : Str) (h : List AObj): ACalls Tryz.prog G0 135 [.e0, .s s] h (AddK [s] h) := by
 refine acalls_intro (rx := true) (th := fun _ => none) mixed Tryz.func135 rfl (by kernel_rfl) (by kernel_rfl) (ac := ?_) ?_ ?_
 rotate_left
 · simp only [strip, splitQ, stripOps, stripOp, hoist, List.filter_cons, List.filter_nil, List.nil_append, List.cons_append, isFree, anyPre, Region.binds, Bool.not_true, Bool.not_false, Bool.false_eq_true, if_true, if_false, Option.isNone_none, Option.isNone_some, Bool.true_and, Bool.false_and, List.map_nil, List.map_cons, List.isEmpty_nil, List.isEmpty_cons, List.append_nil, ckOf, preIs, isMade, isApp, List.getElem?_toArray, List.getElem?_cons_zero, List.getElem?_cons_succ, Bool.or_false, Bool.or_true, Bool.true_or, Bool.false_or, beq_self_eq_true, Option.some_beq_some, Nat.reduceBEq, hasApp, lateOn, isStore, isRd, List.any_cons, List.any_nil, Bool.or_self, Bool.and_self, mode_gc, mode_text]
   rfl
 · simp -implicitDefEqProofs (disch := omega) only [Tryz.f135, go_sem, List.replicate, ↓reduceIte, reduceAdd, reduceSub, reduceMul, reduceLeDiff, reduceLT, reduceEqDiff, reduceNeg, Nat.reduceBEq]
   (repeat' (first | refine gT ?_ ?_ | refine gF ?_ ?_ | refine gC ?_ ?_ | refine And.intro (by omega) ?_ | (intro hr; have hc := hr; (try simp only [zda, zdb, zdc, zdd] at hc); simp -implicitDefEqProofs (disch := omega) only [hr, go_sem, ↓reduceIte, reduceAdd, reduceSub, reduceMul, reduceLeDiff, reduceLT, reduceEqDiff, reduceNeg, Nat.reduceBEq]; (try clear hr))))
   refine x_loopJ (fun (k : Nat) => [.k, .k, .k, .k, .k, .v (.i .i64 (k : Nat)), .k, .k, .j, .j, .j, .j, .j, .j, .j, .j, .j, .j, .j, .j, .j, .k, .k, .k, .k, .k, .k, .k, .k, .k, .k, .k, .k, .k, .k, .k, .k, .k, .k, .k, .k, .k, .k, .k, .k]) (fun k => h) (fun k => k = 0) (fun k => k) (0) rfl rfl (by simp [Fits]) ?_
   rintro k j rfl
   simp -implicitDefEqProofs (disch := omega) only [go_sem, ↓reduceIte, reduceAdd, reduceSub, reduceMul, reduceLeDiff, reduceLT, reduceEqDiff, reduceNeg, Nat.reduceBEq]
   (repeat' (first | refine gT ?_ ?_ | refine gF ?_ ?_ | refine gC ?_ ?_ | refine And.intro (by omega) ?_ | (intro hr; have hc := hr; (try simp only [zda, zdb, zdc, zdd] at hc); simp -implicitDefEqProofs (disch := omega) only [hr, go_sem, ↓reduceIte, reduceAdd, reduceSub, reduceMul, reduceLeDiff, reduceLT, reduceEqDiff, reduceNeg, Nat.reduceBEq]; (try clear hr))))
   · exact absurd hc (by decide)
   · exact ⟨.inr ⟨h.length + 2, rfl, by simp, rfl⟩, .app _ _⟩
theorem add_hs (l : List Str) (s : Str) (i : Nat) (h : List AObj) (hl : l.length ≤ 1000000) (hu : l.Pairwise (· < ·)) (hi : h[i]? = some (.arr false 1 (l.map .s))): ACalls Tryz.prog G0 135 [.hs i 0 l.length false, .s s] h (AddK (addS l s) h) := by
 refine acalls_intro (rx := true) (th := fun _ => none) mixed Tryz.func135 rfl (by kernel_rfl) (by kernel_rfl) (ac := ?_) ?_ ?_
 rotate_left
 · simp only [strip, splitQ, stripOps, stripOp, hoist, List.filter_cons, List.filter_nil, List.nil_append, List.cons_append, isFree, anyPre, Region.binds, Bool.not_true, Bool.not_false, Bool.false_eq_true, if_true, if_false, Option.isNone_none, Option.isNone_some, Bool.true_and, Bool.false_and, List.map_nil, List.map_cons, List.isEmpty_nil, List.isEmpty_cons, List.append_nil, ckOf, preIs, isMade, isApp, List.getElem?_toArray, List.getElem?_cons_zero, List.getElem?_cons_succ, Bool.or_false, Bool.or_true, Bool.true_or, Bool.false_or, beq_self_eq_true, Option.some_beq_some, Nat.reduceBEq, hasApp, lateOn, isStore, isRd, List.any_cons, List.any_nil, Bool.or_self, Bool.and_self, mode_gc, mode_text]
   rfl
 · simp -implicitDefEqProofs (disch := omega) only [Tryz.f135, go_sem, List.replicate, ↓reduceIte, reduceAdd, reduceSub, reduceMul, reduceLeDiff, reduceLT, reduceEqDiff, reduceNeg, Nat.reduceBEq, hi]
   have hlt := lt_of_some hi
   have hi2 : ∀ m : List AObj, (h ++ m)[i]? = some (.arr false 1 (l.map .s)) := fun m => by rw [List.getElem?_append_left hlt]; exact hi
   refine x_loopJ (fun (k : Nat) => [.k, .k, .k, .k, .k, .v (.i .i64 (k : Nat)), .k, .k, .j, .j, .j, .j, .j, .j, .j, .j, .j, .j, .j, .j, .j, .k, .k, .k, .k, .k, .k, .k, .k, .k, .k, .k, .k, .k, .k, .k, .k, .k, .k, .k, .k, .k, .k, .k, .k]) (fun k => h) (fun k => k ≤ l.length ∧ ∀ j, k ≤ j → j < l.length → s ≤ l.getD j []) (fun k => k) (l.length) ⟨Nat.le_refl _, fun j a b => by omega⟩ rfl (by simp [Fits]) ?_
   rintro k j ⟨hk, ha⟩
   have q1 : (k + (l.length - k) ≤ l.length) = True := eq_true (by omega)
   have q2 : ((1 + (l.length - k)) * 16 ≤ 140737488355328) = True := eq_true (by omega)
   have q3 : (1 + (l.length - k) ≤ 140737488355328) = True := eq_true (by omega)
   have q4 : ((k + (1 + (l.length - k))) * 16 ≤ 140737488355328) = True := eq_true (by omega)
   have q5 : (k + (1 + (l.length - k)) ≤ 140737488355328) = True := eq_true (by omega)
   have q6 : (0 < 1 + (l.length - k)) = True := eq_true (by omega)
   have q7 : (1 + (l.length - k) ≤ l.length - k + 1) = True := eq_true (by omega)
   have q8 : (k ≤ l.length) = True := eq_true hk
   have q9 : (l.drop k).take (l.length - k) = l.drop k := List.take_of_length_le (by simp)
   have q10 : List.take (1 + (l.length - k)) (AV.s s :: List.map AV.s (List.drop k l)) = AV.s s :: List.map AV.s (List.drop k l) := List.take_of_length_le (by simp; omega)
   have g : ∀ j (h : j < l.length), l.getD j [] = l[j] := fun j h => by simp [List.getD, h]
   have hb : (0 < k → l.getD (k - 1) [] < s) → ∀ j, j < k → l.getD j [] < s := fun h j hj => by
     have h := h (by omega)
     by_cases e : j = k - 1
     · rw [e]; exact h
     · have := List.pairwise_iff_getElem.1 hu j (k - 1) (by omega) (by omega) (by omega)
       rw [← g j (by omega), ← g (k - 1) (by omega)] at this
       exact lt_le_t this (lt_le h)
   have yes : k < l.length → l.getD k [] = s → addS l s = l := fun h e => by
     rw [addS, if_pos]
     rw [← e, g k h]; exact List.getElem_mem h
   simp -implicitDefEqProofs (disch := omega) only [hi, go_sem, ↓reduceIte, reduceAdd, reduceSub, reduceMul, reduceLeDiff, reduceLT, reduceEqDiff, reduceNeg, Nat.reduceBEq]
   (repeat' (first | refine gT ?_ ?_ | refine gF ?_ ?_ | refine gC ?_ ?_ | refine And.intro (by omega) ?_ | (intro hr; have hc := hr; (try simp only [zda, zdb, zdc, zdd] at hc); simp -implicitDefEqProofs (disch := omega) only [hr, hi, hi2, q1, q2, q3, q4, q5, q6, q7, q8, q9, q10, go_sem, ↓reduceIte, reduceAdd, reduceSub, reduceMul, reduceLeDiff, reduceLT, reduceEqDiff, reduceNeg, Nat.reduceBEq]; (try clear hr))))
   · refine ⟨k - 1, ⟨by omega, fun j a b => ?_⟩, by omega, by congr 1; omega⟩
     by_cases e : j = k - 1
     · rw [e]; rw [bytesLess_eq, decide_eq_false_iff_not] at hc; exact List.not_lt.1 hc
     · exact ha j (by omega) b
   all_goals first
     | (rw [yes (by omega) (by assumption)]; exact ⟨.inr ⟨i, rfl, hi, by simp⟩, .refl _⟩)
     | skip
   all_goals
     have hb1 : ∀ j, j < k → l.getD j [] < s := hb (fun h => by first | (exfalso; omega) | (simp only [bytesLess_eq, decide_eq_true_eq] at *; assumption))
     have hx := addS_at hk hb1 ha (by first | exact fun h => absurd h.1 (by omega) | exact fun h => absurd h.2 (by assumption)) hu
     rw [hx]
     refine ⟨.inr ⟨h.length + 2, ?_, ?_, ?_⟩, .app _ _⟩
     · rw [List.length_append, List.length_take, List.length_cons, List.length_drop, Nat.min_eq_left hk]; congr 1; omega
     · first | (simp; done) | (simp [List.take_of_length_le (show l.length ≤ k by omega)]; done)
     · simp
theorem addC (l : List Str) (s : Str) (out : AV) (h : List AObj) (hl : l.length ≤ 1000000) (hu : l.Pairwise (· < ·)) (ho : OutIs 1 0 h out (l.map .s) l.length) : ACalls Tryz.prog G0 135 [out, .s s] h (AddK (addS l s) h) := by
 rcases ho with ⟨rfl, e1, e2⟩ | ⟨i, rfl, hi, hil⟩
 · have : l = [] := List.length_eq_zero_iff.1 e2
   subst this
   exact add_e0 s h
 · exact add_hs l s i h hl hu hi
def addR (v : LTerm × Int) (l : List Str) : List Str := if v.1.kind = 6 ∧ ¬ v.1.text = [95] then addS l v.1.text else l
theorem addR_up {v : LTerm × Int} {l : List Str} (h : l.Pairwise (· < ·)) : (addR v l).Pairwise (· < ·) := by
 unfold addR; split
 · exact addS_up h
 · exact h
theorem addR_len {v : LTerm × Int} {l : List Str} : (addR v l).length ≤ l.length + 1 := by
 unfold addR; split
 · exact addS_len
 · omega
theorem visR_up : ∀ {vs : List (LTerm × Int)} {l : List Str}, l.Pairwise (· < ·) → (visR addR l vs).Pairwise (· < ·)
 | [], l, h => h
 | v :: vs, l, h => visR_up (vs := vs) (addR_up h)
theorem visR_len : ∀ {vs : List (LTerm × Int)} {l : List Str}, (visR addR l vs).length ≤ l.length + vs.length
 | [], l => by simp [visR]
 | v :: vs, l => by
   have := visR_len (vs := vs) (l := addR v l)
   have h2 := addR_len (v := v) (l := l)
   show (visR addR (addR v l) vs).length ≤ _
   rw [List.length_cons]; omega
theorem visR_mem : ∀ {vs : List (LTerm × Int)} {l m : List Str}, (∀ x, x ∈ l ↔ x ∈ m) → ∀ x, x ∈ visR addR l vs ↔ x ∈ visR addV m vs
 | [], l, m, h, x => h x
 | v :: vs, l, m, h, x => visR_mem (vs := vs) (l := addR v l) (m := addV v m) (fun y => by
   unfold addR addV addN
   split
   · rw [addS_mem, List.mem_append, List.mem_singleton, h]
   · exact h y) x
theorem vars_same (t : LTerm) : visR addR [] (vis t 1) = varsV t := by
 obtain ⟨a, b, _⟩ := varsV_up t
 exact up_ext (visR_up (by simp)) b fun x => by rw [a]; exact visR_mem (fun x => Iff.rfl) x
theorem varsr1 (t : LTerm) (d : Int) (l : List Str) (out : AV) (h : List AObj) (ht : OkT t) (hlen : t.kids.length + t.rest.length ≤ 1000000) (hu : l.Pairwise (· < ·)) (hl : l.length + (vis t d).length ≤ 1000000) (ho : OutIs 1 0 h out (l.map .s) l.length) (ih : ∀ k ∈ t.kids ++ t.rest, ∀ (l : List Str) (out : AV) (h : List AObj), l.Pairwise (· < ·) → l.length + (vis k (d + 1)).length ≤ 1000000 → OutIs 1 0 h out (l.map .s) l.length → ACalls Tryz.prog G0 72 [out, elT k] h (AddK (visR addR l (vis k (d + 1))) h)): ACalls Tryz.prog G0 72 [out, elT t] h (AddK (visR addR l (vis t d)) h) := by
 refine acalls_intro (rx := true) (th := fun _ => none) mixed Tryz.func72 rfl (by kernel_rfl) (by kernel_rfl) (ac := ?_) ?_ ?_
 rotate_left
 · simp only [strip, splitQ, stripOps, stripOp, hoist, List.filter_cons, List.filter_nil, List.nil_append, List.cons_append, isFree, anyPre, Region.binds, Bool.not_true, Bool.not_false, Bool.false_eq_true, if_true, if_false, Option.isNone_none, Option.isNone_some, Bool.true_and, Bool.false_and, List.map_nil, List.map_cons, List.isEmpty_nil, List.isEmpty_cons, List.append_nil, ckOf, preIs, isMade, isApp, List.getElem?_toArray, List.getElem?_cons_zero, List.getElem?_cons_succ, Bool.or_false, Bool.or_true, Bool.true_or, Bool.false_or, beq_self_eq_true, Option.some_beq_some, Nat.reduceBEq, hasApp, lateOn, isStore, isRd, List.any_cons, List.any_nil, Bool.or_self, Bool.and_self, mode_gc, mode_text]
   rfl
 · simp -implicitDefEqProofs (disch := omega) only [Tryz.f72, go_sem, List.replicate, ↓reduceIte, reduceAdd, reduceSub, reduceMul, reduceLeDiff, reduceLT, reduceEqDiff, reduceNeg, Nat.reduceBEq]
   have hvl : (vis t d).length = 1 + (visL (t.kids ++ t.rest) (d + 1)).length := by rw [vis_eq, List.length_cons]; omega
   have hr : visR addR l (vis t d) = visR addR (addR (t, d) l) (visL (t.kids ++ t.rest) (d + 1)) := by rw [vis_eq]; rfl
   rw [hr]
   have cv := addC l t.text out (h ++ [.box false [.i .i64 (t).kind, .i .i64 (t).n, .s (t).text, .s (t).sort, .sl ((t).kids.flatMap termCells) (t).kids.length, .sl ((t).rest.flatMap termCells) (t).rest.length]]) (by omega) hu (ho.more _)
   have hoL : ∀ x ∈ t.kids ++ t.rest, OkT x := fun x hx => by
     rcases List.mem_append.1 hx with hx | hx
     · exact ht.kid x hx
     · exact ht.rst x hx
   have hfl : t.kids.flatMap termCells ++ t.rest.flatMap termCells = (t.kids ++ t.rest).flatMap termCells := List.flatMap_append.symm
   have hfn : t.kids.length + t.rest.length = (t.kids ++ t.rest).length := List.length_append.symm
   have f1 : ∀ l : List LTerm, (l.flatMap termCells).length = l.length * 6 := fun l => term_flat_len
   have q1 := f1 t.kids
   have q2 := f1 t.rest
   have b1 : (t.kids.length * 96 ≤ 140737488355328) = True := eq_true (by omega)
   have b2 : (t.kids.length ≤ 140737488355328) = True := eq_true (by omega)
   have b3 : ((t.kids.length + t.rest.length) * 96 ≤ 140737488355328) = True := eq_true (by omega)
   have b4 : (t.kids.length + t.rest.length ≤ 140737488355328) = True := eq_true (by omega)
   have tl1 : List.take (t.rest.length * 6) (t.rest.flatMap termCells) = t.rest.flatMap termCells := List.take_of_length_le (by rw [f1]; exact Nat.le_refl _)
   have key : ∀ (P : Prop), P → P := fun _ h => h
   by_cases h6 : t.kind = 6
   · by_cases h95 : t.text = [95]
     · have he : addR (t, d) l = l := by rw [addR, if_neg (by simp [h95])]
       rw [he]
       simp -implicitDefEqProofs (disch := omega) only [zt h6, zt h95, b1, b2, b3, b4, go_sem, ↓reduceIte, reduceAdd, reduceSub, reduceMul, reduceLeDiff, reduceLT, reduceEqDiff, reduceNeg, Nat.reduceBEq]
       (repeat' (first | refine gT ?_ ?_ | refine gF ?_ ?_ | refine gC ?_ ?_ | refine And.intro (by omega) ?_ | (intro hr; have hc := hr; (try simp only [zda, zdb, zdc, zdd] at hc); simp -implicitDefEqProofs (disch := omega) only [hr, zt h6, zt h95, b1, b2, b3, b4, q1, q2, tl1, hfl, hfn, List.length_append, List.append_nil, go_sem, ↓reduceIte, reduceAdd, reduceSub, reduceMul, reduceLeDiff, reduceLT, reduceEqDiff, reduceNeg, Nat.reduceBEq]; (try clear hr))))
       rw [hfl, hfn]
       generalize t.kids ++ t.rest = L at *
       refine x_loopJ (fun (s : Nat × List Str × AV × List AObj) => [.v (s.2.2.1), .k, .k, .k, .k, .k, .j, .k, .k, .k, .k, .k, .k, .k, .k, .k, .k, .k, .k, .k, .k, .k, .k, .k, .k, .k, .k, .v (.i .i64 (s.1 : Nat)), .j, .j, .j, .j, .j, .j, .j, .k]) (fun s => s.2.2.2) (fun s => s.1 ≤ L.length ∧ s.2.1.Pairwise (· < ·) ∧ s.2.1.length + (visL (L.drop s.1) (d + 1)).length ≤ 1000000 ∧ visR addR l (visL L (d + 1)) = visR addR s.2.1 (visL (L.drop s.1) (d + 1)) ∧ OutIs 1 0 s.2.2.2 s.2.2.1 (s.2.1.map .s) s.2.1.length ∧ Stay h s.2.2.2 ∧ s.2.2.2[h.length + 2]? = some (.arr false 6 (L.flatMap termCells))) (fun s => L.length - s.1) ((0, l, out, h ++ [.box false [.i .i64 (t).kind, .i .i64 (t).n, .s (t).text, .s (t).sort, .sl ((t).kids.flatMap termCells) (t).kids.length, .sl ((t).rest.flatMap termCells) (t).rest.length], .dead, .arr false 6 (L.flatMap termCells)])) ⟨Nat.zero_le _, hu, (show l.length + (visL L (d + 1)).length ≤ 1000000 by omega), rfl, ho.more _, (Stay.app _ _), by simp⟩ rfl (by simp [Fits]) ?_
       rintro ⟨k, l2, out2, H2⟩ j ⟨hk, hu2, hl2, he2, ho2, hs3, hc2⟩
       dsimp only at hk hu2 hl2 he2 ho2 hs3 hc2
       have hlt2 := lt_of_some hc2
       have hc3 : ∀ m : List AObj, (H2 ++ m)[h.length + 2]? = some (.arr false 6 (L.flatMap termCells)) := fun m => by rw [List.getElem?_append_left hlt2]; exact hc2
       by_cases hkl : k < L.length
       · have hki : (k : Int) < ((L.length : Nat) : Int) := by omega
         rw [visL_at hkl] at he2 hl2
         rw [visR_append] at he2
         rw [List.length_append] at hl2
         have hm := mem_getD (d := default) hkl
         have ci := ih _ hm l2 out2 (H2 ++ [.box false [.i .i64 (L.getD k default).kind, .i .i64 (L.getD k default).n, .s (L.getD k default).text, .s (L.getD k default).sort, .sl ((L.getD k default).kids.flatMap termCells) (L.getD k default).kids.length, .sl ((L.getD k default).rest.flatMap termCells) (L.getD k default).rest.length]]) hu2 (by omega) (ho2.more _)
         simp only [elT, termCells_eq, avt] at ci
         have hln := visR_len (vs := vis (L.getD k default) (d + 1)) (l := l2)
         simp -implicitDefEqProofs (disch := omega) only [zt hki, hc2, hc3, go_sem, ↓reduceIte, reduceAdd, reduceSub, reduceMul, reduceLeDiff, reduceLT, reduceEqDiff, reduceNeg, Nat.reduceBEq]
         (repeat' (first | refine gT ?_ ?_ | refine gF ?_ ?_ | refine gC ?_ ?_ | refine And.intro (by omega) ?_ | (intro hr; have hc := hr; (try simp only [zda, zdb, zdc, zdd] at hc); simp -implicitDefEqProofs (disch := omega) only [hr, zt hki, hc2, hc3, go_sem, ↓reduceIte, reduceAdd, reduceSub, reduceMul, reduceLeDiff, reduceLT, reduceEqDiff, reduceNeg, Nat.reduceBEq]; (try clear hr))))
         refine c_acalls ci ?_
         rintro out3 H3 ⟨ho3, hs4⟩
         simp -implicitDefEqProofs (disch := omega) only [go_sem, ↓reduceIte, reduceAdd, reduceSub, reduceMul, reduceLeDiff, reduceLT, reduceEqDiff, reduceNeg, Nat.reduceBEq]
         have hc4 : H3[h.length + 2]? = some (.arr false 6 (L.flatMap termCells)) := hs4 _ _ (hc3 _) (fun c h => by cases h)
         exact ⟨(k + 1, visR addR l2 (vis (L.getD k default) (d + 1)), out3, H3), ⟨by dsimp only; omega, visR_up hu2, by dsimp only; omega, he2, ho3, hs3.trans ((Stay.app _ _).trans hs4), hc4⟩, by dsimp only; omega, rfl, by simp⟩
       · have hki : ¬ (k : Int) < ((L.length : Nat) : Int) := by omega
         simp -implicitDefEqProofs (disch := omega) only [zf hki, hc2, go_sem, ↓reduceIte, reduceAdd, reduceSub, reduceMul, reduceLeDiff, reduceLT, reduceEqDiff, reduceNeg, Nat.reduceBEq]
         (repeat' (first | refine gT ?_ ?_ | refine gF ?_ ?_ | refine gC ?_ ?_ | refine And.intro (by omega) ?_ | (intro hr; have hc := hr; (try simp only [zda, zdb, zdc, zdd] at hc); simp -implicitDefEqProofs (disch := omega) only [hr, zf hki, hc2, go_sem, ↓reduceIte, reduceAdd, reduceSub, reduceMul, reduceLeDiff, reduceLT, reduceEqDiff, reduceNeg, Nat.reduceBEq]; (try clear hr))))
         rw [List.drop_of_length_le (by omega)] at he2
         rw [he2]
         exact ⟨ho2, hs3⟩
     · have he : addR (t, d) l = addS l t.text := by rw [addR, if_pos ⟨h6, h95⟩]
       rw [he]
       have hu1 := addS_up (s := t.text) hu
       have hl1 := addS_len (l := l) (s := t.text)
       simp -implicitDefEqProofs (disch := omega) only [zt h6, zf h95, go_sem, ↓reduceIte, reduceAdd, reduceSub, reduceMul, reduceLeDiff, reduceLT, reduceEqDiff, reduceNeg, Nat.reduceBEq]
       (repeat' (first | refine gT ?_ ?_ | refine gF ?_ ?_ | refine gC ?_ ?_ | refine And.intro (by omega) ?_ | (intro hr; have hc := hr; (try simp only [zda, zdb, zdc, zdd] at hc); simp -implicitDefEqProofs (disch := omega) only [hr, zt h6, zf h95, go_sem, ↓reduceIte, reduceAdd, reduceSub, reduceMul, reduceLeDiff, reduceLT, reduceEqDiff, reduceNeg, Nat.reduceBEq]; (try clear hr))))
       refine c_acalls cv ?_
       rintro out1 H1 ⟨ho1, hs1⟩
       have hb : H1[h.length]? = some (.box false [.i .i64 (t).kind, .i .i64 (t).n, .s (t).text, .s (t).sort, .sl ((t).kids.flatMap termCells) (t).kids.length, .sl ((t).rest.flatMap termCells) (t).rest.length]) := hs1 _ _ (by simp) (fun c h => by cases h)
       have hs2 : Stay h H1 := (Stay.app h _).trans hs1
       generalize addS l t.text = l1 at *
       have hlt := lt_of_some hb
       have hb2 : ∀ m : List AObj, (H1 ++ m)[h.length]? = some (.box false [.i .i64 (t).kind, .i .i64 (t).n, .s (t).text, .s (t).sort, .sl ((t).kids.flatMap termCells) (t).kids.length, .sl ((t).rest.flatMap termCells) (t).rest.length]) := fun m => by rw [List.getElem?_append_left hlt]; exact hb
       simp -implicitDefEqProofs (disch := omega) only [hb, hb2, b1, b2, b3, b4, go_sem, ↓reduceIte, reduceAdd, reduceSub, reduceMul, reduceLeDiff, reduceLT, reduceEqDiff, reduceNeg, Nat.reduceBEq]
       (repeat' (first | refine gT ?_ ?_ | refine gF ?_ ?_ | refine gC ?_ ?_ | refine And.intro (by omega) ?_ | (intro hr; have hc := hr; (try simp only [zda, zdb, zdc, zdd] at hc); simp -implicitDefEqProofs (disch := omega) only [hr, hb, hb2, b1, b2, b3, b4, q1, q2, tl1, hfl, hfn, List.length_append, List.append_nil, go_sem, ↓reduceIte, reduceAdd, reduceSub, reduceMul, reduceLeDiff, reduceLT, reduceEqDiff, reduceNeg, Nat.reduceBEq]; (try clear hr))))
       rw [hfl, hfn]
       generalize t.kids ++ t.rest = L at *
       refine x_loopJ (fun (s : Nat × List Str × AV × List AObj) => [.v (s.2.2.1), .k, .k, .k, .k, .k, .j, .k, .k, .k, .k, .k, .k, .k, .k, .k, .k, .k, .k, .k, .k, .k, .k, .k, .k, .k, .k, .v (.i .i64 (s.1 : Nat)), .j, .j, .j, .j, .j, .j, .j, .k]) (fun s => s.2.2.2) (fun s => s.1 ≤ L.length ∧ s.2.1.Pairwise (· < ·) ∧ s.2.1.length + (visL (L.drop s.1) (d + 1)).length ≤ 1000000 ∧ visR addR l1 (visL L (d + 1)) = visR addR s.2.1 (visL (L.drop s.1) (d + 1)) ∧ OutIs 1 0 s.2.2.2 s.2.2.1 (s.2.1.map .s) s.2.1.length ∧ Stay h s.2.2.2 ∧ s.2.2.2[H1.length + 1]? = some (.arr false 6 (L.flatMap termCells))) (fun s => L.length - s.1) ((0, l1, out1, H1 ++ [.dead, .arr false 6 (L.flatMap termCells)])) ⟨Nat.zero_le _, hu1, (show l1.length + (visL L (d + 1)).length ≤ 1000000 by omega), rfl, ho1.more _, (hs2.trans (.app _ _)), by simp⟩ rfl (by simp [Fits]) ?_
       rintro ⟨k, l2, out2, H2⟩ j ⟨hk, hu2, hl2, he2, ho2, hs3, hc2⟩
       dsimp only at hk hu2 hl2 he2 ho2 hs3 hc2
       have hlt2 := lt_of_some hc2
       have hc3 : ∀ m : List AObj, (H2 ++ m)[H1.length + 1]? = some (.arr false 6 (L.flatMap termCells)) := fun m => by rw [List.getElem?_append_left hlt2]; exact hc2
       by_cases hkl : k < L.length
       · have hki : (k : Int) < ((L.length : Nat) : Int) := by omega
         rw [visL_at hkl] at he2 hl2
         rw [visR_append] at he2
         rw [List.length_append] at hl2
         have hm := mem_getD (d := default) hkl
         have ci := ih _ hm l2 out2 (H2 ++ [.box false [.i .i64 (L.getD k default).kind, .i .i64 (L.getD k default).n, .s (L.getD k default).text, .s (L.getD k default).sort, .sl ((L.getD k default).kids.flatMap termCells) (L.getD k default).kids.length, .sl ((L.getD k default).rest.flatMap termCells) (L.getD k default).rest.length]]) hu2 (by omega) (ho2.more _)
         simp only [elT, termCells_eq, avt] at ci
         have hln := visR_len (vs := vis (L.getD k default) (d + 1)) (l := l2)
         simp -implicitDefEqProofs (disch := omega) only [zt hki, hc2, hc3, go_sem, ↓reduceIte, reduceAdd, reduceSub, reduceMul, reduceLeDiff, reduceLT, reduceEqDiff, reduceNeg, Nat.reduceBEq]
         (repeat' (first | refine gT ?_ ?_ | refine gF ?_ ?_ | refine gC ?_ ?_ | refine And.intro (by omega) ?_ | (intro hr; have hc := hr; (try simp only [zda, zdb, zdc, zdd] at hc); simp -implicitDefEqProofs (disch := omega) only [hr, zt hki, hc2, hc3, go_sem, ↓reduceIte, reduceAdd, reduceSub, reduceMul, reduceLeDiff, reduceLT, reduceEqDiff, reduceNeg, Nat.reduceBEq]; (try clear hr))))
         refine c_acalls ci ?_
         rintro out3 H3 ⟨ho3, hs4⟩
         simp -implicitDefEqProofs (disch := omega) only [go_sem, ↓reduceIte, reduceAdd, reduceSub, reduceMul, reduceLeDiff, reduceLT, reduceEqDiff, reduceNeg, Nat.reduceBEq]
         have hc4 : H3[H1.length + 1]? = some (.arr false 6 (L.flatMap termCells)) := hs4 _ _ (hc3 _) (fun c h => by cases h)
         exact ⟨(k + 1, visR addR l2 (vis (L.getD k default) (d + 1)), out3, H3), ⟨by dsimp only; omega, visR_up hu2, by dsimp only; omega, he2, ho3, hs3.trans ((Stay.app _ _).trans hs4), hc4⟩, by dsimp only; omega, rfl, by simp⟩
       · have hki : ¬ (k : Int) < ((L.length : Nat) : Int) := by omega
         simp -implicitDefEqProofs (disch := omega) only [zf hki, hc2, go_sem, ↓reduceIte, reduceAdd, reduceSub, reduceMul, reduceLeDiff, reduceLT, reduceEqDiff, reduceNeg, Nat.reduceBEq]
         (repeat' (first | refine gT ?_ ?_ | refine gF ?_ ?_ | refine gC ?_ ?_ | refine And.intro (by omega) ?_ | (intro hr; have hc := hr; (try simp only [zda, zdb, zdc, zdd] at hc); simp -implicitDefEqProofs (disch := omega) only [hr, zf hki, hc2, go_sem, ↓reduceIte, reduceAdd, reduceSub, reduceMul, reduceLeDiff, reduceLT, reduceEqDiff, reduceNeg, Nat.reduceBEq]; (try clear hr))))
         rw [List.drop_of_length_le (by omega)] at he2
         rw [he2]
         exact ⟨ho2, hs3⟩
   · have he : addR (t, d) l = l := by rw [addR, if_neg (by simp [h6])]
     rw [he]
     simp -implicitDefEqProofs (disch := omega) only [zf h6, b1, b2, b3, b4, go_sem, ↓reduceIte, reduceAdd, reduceSub, reduceMul, reduceLeDiff, reduceLT, reduceEqDiff, reduceNeg, Nat.reduceBEq]
     (repeat' (first | refine gT ?_ ?_ | refine gF ?_ ?_ | refine gC ?_ ?_ | refine And.intro (by omega) ?_ | (intro hr; have hc := hr; (try simp only [zda, zdb, zdc, zdd] at hc); simp -implicitDefEqProofs (disch := omega) only [hr, zf h6, b1, b2, b3, b4, q1, q2, tl1, hfl, hfn, List.length_append, List.append_nil, go_sem, ↓reduceIte, reduceAdd, reduceSub, reduceMul, reduceLeDiff, reduceLT, reduceEqDiff, reduceNeg, Nat.reduceBEq]; (try clear hr))))
     rw [hfl, hfn]
     generalize t.kids ++ t.rest = L at *
     refine x_loopJ (fun (s : Nat × List Str × AV × List AObj) => [.v (s.2.2.1), .k, .k, .k, .k, .k, .j, .k, .k, .k, .k, .k, .k, .k, .k, .k, .k, .k, .k, .k, .k, .k, .k, .k, .k, .k, .k, .v (.i .i64 (s.1 : Nat)), .j, .j, .j, .j, .j, .j, .j, .k]) (fun s => s.2.2.2) (fun s => s.1 ≤ L.length ∧ s.2.1.Pairwise (· < ·) ∧ s.2.1.length + (visL (L.drop s.1) (d + 1)).length ≤ 1000000 ∧ visR addR l (visL L (d + 1)) = visR addR s.2.1 (visL (L.drop s.1) (d + 1)) ∧ OutIs 1 0 s.2.2.2 s.2.2.1 (s.2.1.map .s) s.2.1.length ∧ Stay h s.2.2.2 ∧ s.2.2.2[h.length + 2]? = some (.arr false 6 (L.flatMap termCells))) (fun s => L.length - s.1) ((0, l, out, h ++ [.box false [.i .i64 (t).kind, .i .i64 (t).n, .s (t).text, .s (t).sort, .sl ((t).kids.flatMap termCells) (t).kids.length, .sl ((t).rest.flatMap termCells) (t).rest.length], .dead, .arr false 6 (L.flatMap termCells)])) ⟨Nat.zero_le _, hu, (show l.length + (visL L (d + 1)).length ≤ 1000000 by omega), rfl, ho.more _, (Stay.app _ _), by simp⟩ rfl (by simp [Fits]) ?_
     rintro ⟨k, l2, out2, H2⟩ j ⟨hk, hu2, hl2, he2, ho2, hs3, hc2⟩
     dsimp only at hk hu2 hl2 he2 ho2 hs3 hc2
     have hlt2 := lt_of_some hc2
     have hc3 : ∀ m : List AObj, (H2 ++ m)[h.length + 2]? = some (.arr false 6 (L.flatMap termCells)) := fun m => by rw [List.getElem?_append_left hlt2]; exact hc2
     by_cases hkl : k < L.length
     · have hki : (k : Int) < ((L.length : Nat) : Int) := by omega
       rw [visL_at hkl] at he2 hl2
       rw [visR_append] at he2
       rw [List.length_append] at hl2
       have hm := mem_getD (d := default) hkl
       have ci := ih _ hm l2 out2 (H2 ++ [.box false [.i .i64 (L.getD k default).kind, .i .i64 (L.getD k default).n, .s (L.getD k default).text, .s (L.getD k default).sort, .sl ((L.getD k default).kids.flatMap termCells) (L.getD k default).kids.length, .sl ((L.getD k default).rest.flatMap termCells) (L.getD k default).rest.length]]) hu2 (by omega) (ho2.more _)
       simp only [elT, termCells_eq, avt] at ci
       have hln := visR_len (vs := vis (L.getD k default) (d + 1)) (l := l2)
       simp -implicitDefEqProofs (disch := omega) only [zt hki, hc2, hc3, go_sem, ↓reduceIte, reduceAdd, reduceSub, reduceMul, reduceLeDiff, reduceLT, reduceEqDiff, reduceNeg, Nat.reduceBEq]
       (repeat' (first | refine gT ?_ ?_ | refine gF ?_ ?_ | refine gC ?_ ?_ | refine And.intro (by omega) ?_ | (intro hr; have hc := hr; (try simp only [zda, zdb, zdc, zdd] at hc); simp -implicitDefEqProofs (disch := omega) only [hr, zt hki, hc2, hc3, go_sem, ↓reduceIte, reduceAdd, reduceSub, reduceMul, reduceLeDiff, reduceLT, reduceEqDiff, reduceNeg, Nat.reduceBEq]; (try clear hr))))
       refine c_acalls ci ?_
       rintro out3 H3 ⟨ho3, hs4⟩
       simp -implicitDefEqProofs (disch := omega) only [go_sem, ↓reduceIte, reduceAdd, reduceSub, reduceMul, reduceLeDiff, reduceLT, reduceEqDiff, reduceNeg, Nat.reduceBEq]
       have hc4 : H3[h.length + 2]? = some (.arr false 6 (L.flatMap termCells)) := hs4 _ _ (hc3 _) (fun c h => by cases h)
       exact ⟨(k + 1, visR addR l2 (vis (L.getD k default) (d + 1)), out3, H3), ⟨by dsimp only; omega, visR_up hu2, by dsimp only; omega, he2, ho3, hs3.trans ((Stay.app _ _).trans hs4), hc4⟩, by dsimp only; omega, rfl, by simp⟩
     · have hki : ¬ (k : Int) < ((L.length : Nat) : Int) := by omega
       simp -implicitDefEqProofs (disch := omega) only [zf hki, hc2, go_sem, ↓reduceIte, reduceAdd, reduceSub, reduceMul, reduceLeDiff, reduceLT, reduceEqDiff, reduceNeg, Nat.reduceBEq]
       (repeat' (first | refine gT ?_ ?_ | refine gF ?_ ?_ | refine gC ?_ ?_ | refine And.intro (by omega) ?_ | (intro hr; have hc := hr; (try simp only [zda, zdb, zdc, zdd] at hc); simp -implicitDefEqProofs (disch := omega) only [hr, zf hki, hc2, go_sem, ↓reduceIte, reduceAdd, reduceSub, reduceMul, reduceLeDiff, reduceLT, reduceEqDiff, reduceNeg, Nat.reduceBEq]; (try clear hr))))
       rw [List.drop_of_length_le (by omega)] at he2
       rw [he2]
       exact ⟨ho2, hs3⟩
theorem varsr : ∀ (t : LTerm), OkT t → (∀ d, ∀ v ∈ vis t d, v.1.kids.length + v.1.rest.length ≤ 1000000) → ∀ (d : Int) (l : List Str) (out : AV) (h : List AObj), l.Pairwise (· < ·) → l.length + (vis t d).length ≤ 1000000 → OutIs 1 0 h out (l.map .s) l.length → ACalls Tryz.prog G0 72 [out, elT t] h (AddK (visR addR l (vis t d)) h) :=
 term_ind (Q := fun t => OkT t → (∀ d, ∀ v ∈ vis t d, v.1.kids.length + v.1.rest.length ≤ 1000000) → ∀ (d : Int) (l : List Str) (out : AV) (h : List AObj), l.Pairwise (· < ·) → l.length + (vis t d).length ≤ 1000000 → OutIs 1 0 h out (l.map .s) l.length → ACalls Tryz.prog G0 72 [out, elT t] h (AddK (visR addR l (vis t d)) h)) fun t hk hr ht hw d l out h hu hl ho => by
   have sub : ∀ k ∈ t.kids ++ t.rest, ∀ d, ∀ v ∈ vis k d, v ∈ visL (t.kids ++ t.rest) d := by
     intro k hkm d v hv
     generalize t.kids ++ t.rest = L at *
     induction L with
     | nil => cases hkm
     | cons x L ih =>
       rw [visL, List.mem_append]
       rcases List.mem_cons.1 hkm with rfl | hm
       · exact .inl hv
       · exact .inr (ih hm)
   have hwk : ∀ k ∈ t.kids ++ t.rest, ∀ d, ∀ v ∈ vis k d, v.1.kids.length + v.1.rest.length ≤ 1000000 := fun k hkm d v hv => hw (d - 1) v (by
     rw [vis_eq, List.mem_cons, show d - 1 + 1 = d by omega]
     exact .inr (sub k hkm d v hv))
   refine varsr1 t d l out h ht (hw d (t, d) (by rw [vis_eq]; simp)) hu hl ho fun k hm l out h hu hl ho => ?_
   rcases List.mem_append.1 hm with hm' | hm'
   · exact hk k hm' (ht.kid k hm') (hwk k hm) (d + 1) l out h hu hl ho
   · exact hr k hm' (ht.rst k hm') (hwk k hm) (d + 1) l out h hu hl ho
theorem fin_winT {H : List AObj} {i : Nat} {l : List Str} {e : Int} (hid : H[i]? = some (.arr false 1 (l.map .s))) (hl : (l.map AV.s).length = l.length * 1) : Fin H (.tup [.hs (i + 0) 0 l.length false, .i .i64 e]) (.tup [avs l, .i .i64 e]) := by
 have e1 : finOK H (.hs i 0 l.length false) (.sl (l.map .s) l.length) := by
   show AV.sl _ _ = snap dep H (.hs i 0 l.length false)
   have hw : 0 + l.length * 1 ≤ (l.map AV.s).length := by rw [hl]; omega
   have hd : ((l.map AV.s).drop 0).take (l.length * 1) = l.map AV.s := by rw [List.drop_zero, List.take_of_length_le (by rw [hl]; exact Nat.le_refl _)]
   simp only [snap_dep, pers, snapS, hid, hd, persL_s, if_true, Bool.false_eq_true, if_false, if_pos hw]
 exact .inr ⟨⟨e1, rfl, trivial⟩, by simp [avs, finIds, finIdsL], by simp [avs, finIds, finIdsL]⟩
theorem ctr343 (t : LTerm) (ht : OkT t): CT 35 [elT t] (varsR t) := by
 refine sem_introA mixed Tryz.func35 g0 ?_
 · generalize hR : ((varsR t) : AV) = R
   simp -implicitDefEqProofs (disch := omega) only [Tryz.f35, go_sem, List.replicate, ↓reduceIte, reduceAdd, reduceSub, reduceMul, reduceLeDiff, reduceLT, reduceEqDiff, reduceNeg, Nat.reduceBEq]
   have c := ctr252 t ht
   cases hv : validT nodeB t with
   | false =>
     rw [hv] at c
     (repeat' (first | refine gT ?_ ?_ | refine gF ?_ ?_ | refine gC ?_ ?_ | ((refine c_ctrE (c) ?_ ?_; (focus (simp -implicitDefEqProofs (disch := omega) only [avs, avb, avi, avo, sigCells, opCells, pairCells, elT, avt, termCells_eq, go_sem, ↓reduceIte, reduceAdd, reduceSub, reduceMul, reduceLeDiff, reduceLT, reduceEqDiff, reduceNeg, Nat.reduceBEq]; done))); simp -implicitDefEqProofs (disch := omega) only [go_sem, ↓reduceIte, reduceAdd, reduceSub, reduceMul, reduceLeDiff, reduceLT, reduceEqDiff, reduceNeg, Nat.reduceBEq]) | refine And.intro (by omega) ?_ | (intro hr; have hc := hr; (try simp only [zda, zdb, zdc, zdd] at hc); simp -implicitDefEqProofs (disch := omega) only [hr, go_sem, ↓reduceIte, reduceAdd, reduceSub, reduceMul, reduceLeDiff, reduceLT, reduceEqDiff, reduceNeg, Nat.reduceBEq]; (try clear hr))))
     subst hR
     rw [varsR, hv]
     exact fin_e2
   | true =>
     rw [hv] at c
     have hw := valid_wf hv
     have hn : nodesT t ≤ 2000 := by simp only [validT, Bool.and_eq_true, decide_eq_true_eq] at hv; omega
     have c2 := varsr t ht (fun d v h => by have := (vis_bnd t hw d v h).len; omega) 1 [] .e0 [.box false [.i .i64 (t).kind, .i .i64 (t).n, .s (t).text, .s (t).sort, .sl ((t).kids.flatMap termCells) (t).kids.length, .sl ((t).rest.flatMap termCells) (t).rest.length]] (by simp) (by rw [vis_len t hw]; simp; omega) outIs_e0
     rw [vars_same] at c2
     simp only [elT, termCells_eq, avt] at c2
     (repeat' (first | refine gT ?_ ?_ | refine gF ?_ ?_ | refine gC ?_ ?_ | ((refine c_ctrE (c) ?_ ?_; (focus (simp -implicitDefEqProofs (disch := omega) only [avs, avb, avi, avo, sigCells, opCells, pairCells, elT, avt, termCells_eq, go_sem, ↓reduceIte, reduceAdd, reduceSub, reduceMul, reduceLeDiff, reduceLT, reduceEqDiff, reduceNeg, Nat.reduceBEq]; done))); simp -implicitDefEqProofs (disch := omega) only [go_sem, ↓reduceIte, reduceAdd, reduceSub, reduceMul, reduceLeDiff, reduceLT, reduceEqDiff, reduceNeg, Nat.reduceBEq]) | refine And.intro (by omega) ?_ | (intro hr; have hc := hr; (try simp only [zda, zdb, zdc, zdd] at hc); simp -implicitDefEqProofs (disch := omega) only [hr, go_sem, ↓reduceIte, reduceAdd, reduceSub, reduceMul, reduceLeDiff, reduceLT, reduceEqDiff, reduceNeg, Nat.reduceBEq]; (try clear hr))))
     refine c_acalls c2 ?_
     rintro r h' ⟨ho, hs⟩
     simp -implicitDefEqProofs (disch := omega) only [go_sem, ↓reduceIte, reduceAdd, reduceSub, reduceMul, reduceLeDiff, reduceLT, reduceEqDiff, reduceNeg, Nat.reduceBEq]
     subst hR
     rw [varsR, hv]
     rcases ho with ⟨rfl, e1, e2⟩ | ⟨i, rfl, hi, hil⟩
     · rw [List.length_eq_zero_iff.1 e2]
       exact fin_e2
     · exact fin_winT hi hil

theorem wtail (t : LTerm) (ht : OkT t) (hn : (restW t.kids.length t.rest).length ≤ 1000) (hr : t.rest.length ≤ 1): CT 140 [avt t.rest, .b (decide (t.kids.length = 0))] (.s (restW t.kids.length t.rest)) := by
 refine sem_introA mixed Tryz.func140 g0 ?_
 · simp -implicitDefEqProofs (disch := omega) only [Tryz.f140, go_sem, List.replicate, ↓reduceIte, reduceAdd, reduceSub, reduceMul, reduceLeDiff, reduceLT, reduceEqDiff, reduceNeg, Nat.reduceBEq, avt]
   have ho : 0 < t.rest.length → t.rest = [t.rest.getD 0 default] := fun h => by
     match hq : t.rest, hr, h with
     | [x], _, _ => rfl
   have e0 : t.rest.length = 0 → restW t.kids.length t.rest = [] := fun h => by rw [List.length_eq_zero_iff.1 h]; rfl
   have e1 : 0 < t.rest.length → restW t.kids.length t.rest = oneRest t.kids.length (t.rest.getD 0 default) := fun h => by
     conv => lhs; rw [ho h]
     simp only [restW, List.flatMap_cons, List.flatMap_nil, List.append_nil]
   have e2 : 0 < t.rest.length → (t.rest.getD 0 default).text.length ≤ 1000 := fun h => by
     rw [e1 h, oneRest] at hn
     simp only [List.length_append, List.length_cons] at hn
     omega
   by_cases h0 : t.rest.length = 0
   · (repeat' (first | refine gT ?_ ?_ | refine gF ?_ ?_ | refine gC ?_ ?_ | refine And.intro (by omega) ?_ | (intro hr; have hc := hr; (try simp only [zda, zdb, zdc, zdd] at hc); simp -implicitDefEqProofs (disch := omega) only [hr, h0, Int.cast_ofNat_Int, go_sem, ↓reduceIte, reduceAdd, reduceSub, reduceMul, reduceLeDiff, reduceLT, reduceEqDiff, reduceNeg, Nat.reduceBEq]; (try clear hr))))
     all_goals first
       | exact fin_eq (by rw [e0 h0]) rfl
       | (exfalso; omega)
       | skip
   · have hp : 0 < t.rest.length := by omega
     have e3 := e1 hp
     have e4 := e2 hp
     have h1 : ¬ ((t.rest.length : Nat) : Int) = 0 := by omega
     have q2 : (t.rest.flatMap termCells)[2]? = some (.s (t.rest.getD 0 default).text) := by
       rw [ho hp]; simp [termCells_eq]
     by_cases hk : t.kids.length = 0
     · rw [oneRest, if_neg (by omega)] at e3
       rw [zt hk]
       (repeat' (first | refine gT ?_ ?_ | refine gF ?_ ?_ | refine gC ?_ ?_ | refine And.intro (by omega) ?_ | (intro hr; have hc := hr; (try simp only [zda, zdb, zdc, zdd] at hc); simp -implicitDefEqProofs (disch := omega) only [hr, zf h1, q2, go_sem, ↓reduceIte, reduceAdd, reduceSub, reduceMul, reduceLeDiff, reduceLT, reduceEqDiff, reduceNeg, Nat.reduceBEq]; (try clear hr))))
       all_goals first
         | (exfalso; omega)
         | exact fin_eq (by rw [e3]; rfl) rfl
     · rw [oneRest, if_pos (by omega)] at e3
       rw [zf hk]
       (repeat' (first | refine gT ?_ ?_ | refine gF ?_ ?_ | refine gC ?_ ?_ | refine And.intro (by omega) ?_ | (intro hr; have hc := hr; (try simp only [zda, zdb, zdc, zdd] at hc); simp -implicitDefEqProofs (disch := omega) only [hr, zf h1, q2, go_sem, ↓reduceIte, reduceAdd, reduceSub, reduceMul, reduceLeDiff, reduceLT, reduceEqDiff, reduceNeg, Nat.reduceBEq]; (try clear hr))))
       all_goals first
         | (exfalso; omega)
         | exact fin_eq (by rw [e3]; rfl) rfl
theorem wrow (l : List LTerm) (hl : l.length ≤ 1466015503701) (hf : (listW (l.map writeT)).length ≤ 1000000) (ih : ∀ t ∈ l, CT 74 [elT t] (.s (writeT t))): CT 139 [avt l] (.s (listW (l.map writeT))) := by
 refine sem_introA mixed Tryz.func139 g0 ?_
 · simp -implicitDefEqProofs (disch := omega) only [Tryz.f139, go_sem, List.replicate, ↓reduceIte, reduceAdd, reduceSub, reduceMul, reduceLeDiff, reduceLT, reduceEqDiff, reduceNeg, Nat.reduceBEq, avt]
   refine x_loopG (fun (k : Nat) => [.k, .k, .k, .v (.s (listW ((l.take k).map writeT))), .j, .j, .k, .k, .v (.i .i64 (k : Nat)), .j, .j, .j, .j, .j, .j, .j, .j, .j, .j, .j, .j, .j, .k]) (fun k => []) (fun k => k ≤ l.length) (fun k => l.length - k) (0) _ (Nat.zero_le _) rfl (by simp [Fits]) ?_
   rintro k g j hk
   by_cases hlt : k < l.length
   · have hki : (k : Int) < ((l.length : Nat) : Int) := by omega
     have f1 := listW_take hlt
     have f2 := listW_mono (k := k + 1) hlt
     have f3 := congrArg List.length f1
     have c := ih _ (mem_getD (d := default) hlt)
     by_cases hk0 : 0 < k
     · have hk1 : (0 : Int) < (k : Int) := by omega
       rw [if_pos hk0] at f1 f3
       simp only [List.length_append, List.length_cons, List.length_nil] at f3
       simp -implicitDefEqProofs (disch := omega) only [zt hki, zt hk1, go_sem, ↓reduceIte, reduceAdd, reduceSub, reduceMul, reduceLeDiff, reduceLT, reduceEqDiff, reduceNeg, Nat.reduceBEq]
       (repeat' (first | refine gT ?_ ?_ | refine gF ?_ ?_ | refine gC ?_ ?_ | ((refine c_ctrE (c) ?_ ?_; (focus (simp -implicitDefEqProofs (disch := omega) only [zt hki, zt hk1, List.length_append, List.length_cons, List.length_nil, avs, avb, avi, avo, sigCells, opCells, pairCells, elT, avt, termCells_eq, go_sem, ↓reduceIte, reduceAdd, reduceSub, reduceMul, reduceLeDiff, reduceLT, reduceEqDiff, reduceNeg, Nat.reduceBEq]; done))); simp -implicitDefEqProofs (disch := omega) only [zt hki, zt hk1, List.length_append, List.length_cons, List.length_nil, go_sem, ↓reduceIte, reduceAdd, reduceSub, reduceMul, reduceLeDiff, reduceLT, reduceEqDiff, reduceNeg, Nat.reduceBEq]) | refine And.intro (by omega) ?_ | (intro hr; have hc := hr; (try simp only [zda, zdb, zdc, zdd] at hc); simp -implicitDefEqProofs (disch := omega) only [hr, zt hki, zt hk1, List.length_append, List.length_cons, List.length_nil, go_sem, ↓reduceIte, reduceAdd, reduceSub, reduceMul, reduceLeDiff, reduceLT, reduceEqDiff, reduceNeg, Nat.reduceBEq]; (try clear hr))))
       all_goals exact ⟨k + 1, _, by omega, by omega, rfl, by rw [f1]; simp, by simp⟩
     · have hk1 : ¬ (0 : Int) < (k : Int) := by omega
       rw [if_neg hk0] at f1 f3
       simp only [List.length_append, List.length_cons, List.length_nil] at f3
       simp -implicitDefEqProofs (disch := omega) only [zt hki, zf hk1, go_sem, ↓reduceIte, reduceAdd, reduceSub, reduceMul, reduceLeDiff, reduceLT, reduceEqDiff, reduceNeg, Nat.reduceBEq]
       (repeat' (first | refine gT ?_ ?_ | refine gF ?_ ?_ | refine gC ?_ ?_ | ((refine c_ctrE (c) ?_ ?_; (focus (simp -implicitDefEqProofs (disch := omega) only [zt hki, zf hk1, List.length_append, List.length_cons, List.length_nil, avs, avb, avi, avo, sigCells, opCells, pairCells, elT, avt, termCells_eq, go_sem, ↓reduceIte, reduceAdd, reduceSub, reduceMul, reduceLeDiff, reduceLT, reduceEqDiff, reduceNeg, Nat.reduceBEq]; done))); simp -implicitDefEqProofs (disch := omega) only [zt hki, zf hk1, List.length_append, List.length_cons, List.length_nil, go_sem, ↓reduceIte, reduceAdd, reduceSub, reduceMul, reduceLeDiff, reduceLT, reduceEqDiff, reduceNeg, Nat.reduceBEq]) | refine And.intro (by omega) ?_ | (intro hr; have hc := hr; (try simp only [zda, zdb, zdc, zdd] at hc); simp -implicitDefEqProofs (disch := omega) only [hr, zt hki, zf hk1, List.length_append, List.length_cons, List.length_nil, go_sem, ↓reduceIte, reduceAdd, reduceSub, reduceMul, reduceLeDiff, reduceLT, reduceEqDiff, reduceNeg, Nat.reduceBEq]; (try clear hr))))
       all_goals exact ⟨k + 1, _, by omega, by omega, rfl, by rw [f1]; simp, by simp⟩
   · have hki : ¬ (k : Int) < ((l.length : Nat) : Int) := by omega
     simp -implicitDefEqProofs (disch := omega) only [zf hki, go_sem, ↓reduceIte, reduceAdd, reduceSub, reduceMul, reduceLeDiff, reduceLT, reduceEqDiff, reduceNeg, Nat.reduceBEq]
     (repeat' (first | refine gT ?_ ?_ | refine gF ?_ ?_ | refine gC ?_ ?_ | refine And.intro (by omega) ?_ | (intro hr; have hc := hr; (try simp only [zda, zdb, zdc, zdd] at hc); simp -implicitDefEqProofs (disch := omega) only [hr, zf hki, go_sem, ↓reduceIte, reduceAdd, reduceSub, reduceMul, reduceLeDiff, reduceLT, reduceEqDiff, reduceNeg, Nat.reduceBEq]; (try clear hr))))
     all_goals exact fin_eq (by first | rfl | rw [List.take_of_length_le (by omega)]) rfl
theorem rwrit_1 (t : LTerm) (ht : OkT t) (hk : t.kind = 1) (hn : isInt t.n = true) (hf : (writeT t).length ≤ 1000000): CT 74 [elT t] (.s (writeT t)) := by
 refine sem_introB mixed Tryz.func74 g0 ?_
 · skip
   have e := write_eq t
   have hl := congrArg List.length e
   rw [if_pos hk] at e hl
   have hi : -2147483647 ≤ t.n ∧ t.n ≤ 2147483647 := by simpa only [isInt, Bool.and_eq_true, decide_eq_true_eq] using hn
   simp -implicitDefEqProofs (disch := omega) only [zt hk, go_sem, ↓reduceIte, reduceAdd, reduceSub, reduceMul, reduceLeDiff, reduceLT, reduceEqDiff, reduceNeg, Nat.reduceBEq]
   (repeat' (first | refine gT ?_ ?_ | refine gF ?_ ?_ | refine gC ?_ ?_ | ((refine c_ctrE (ctr275 t.n (by omega) (by omega)) ?_ ?_; (focus (simp -implicitDefEqProofs (disch := omega) only [zt hk, avs, avb, avi, avo, sigCells, opCells, pairCells, elT, avt, termCells_eq, go_sem, ↓reduceIte, reduceAdd, reduceSub, reduceMul, reduceLeDiff, reduceLT, reduceEqDiff, reduceNeg, Nat.reduceBEq]; done))); simp -implicitDefEqProofs (disch := omega) only [zt hk, go_sem, ↓reduceIte, reduceAdd, reduceSub, reduceMul, reduceLeDiff, reduceLT, reduceEqDiff, reduceNeg, Nat.reduceBEq]) | refine And.intro (by omega) ?_ | (intro hr; have hc := hr; (try simp only [zda, zdb, zdc, zdd] at hc); simp -implicitDefEqProofs (disch := omega) only [hr, zt hk, go_sem, ↓reduceIte, reduceAdd, reduceSub, reduceMul, reduceLeDiff, reduceLT, reduceEqDiff, reduceNeg, Nat.reduceBEq]; (try clear hr))))
   all_goals exact fin_eq (by rw [e]) rfl
theorem rwrit_2 (t : LTerm) (ht : OkT t) (hk : t.kind = 2) (hn : OkT t) (hf : (writeT t).length ≤ 1000000): CT 74 [elT t] (.s (writeT t)) := by
 refine sem_introB mixed Tryz.func74 g0 ?_
 · skip
   have e := write_eq t
   have hl := congrArg List.length e
   have n1 : ¬ t.kind = 1 := by omega
   rw [if_neg n1, if_pos hk] at e hl
   simp -implicitDefEqProofs (disch := omega) only [zf n1, zt hk, go_sem, ↓reduceIte, reduceAdd, reduceSub, reduceMul, reduceLeDiff, reduceLT, reduceEqDiff, reduceNeg, Nat.reduceBEq]
   (repeat' (first | refine gT ?_ ?_ | refine gF ?_ ?_ | refine gC ?_ ?_ | refine And.intro (by omega) ?_ | (intro hr; have hc := hr; (try simp only [zda, zdb, zdc, zdd] at hc); simp -implicitDefEqProofs (disch := omega) only [hr, zf n1, zt hk, go_sem, ↓reduceIte, reduceAdd, reduceSub, reduceMul, reduceLeDiff, reduceLT, reduceEqDiff, reduceNeg, Nat.reduceBEq]; (try clear hr))))
   all_goals exact fin_eq (by rw [e]; first | rw [zt (by assumption)]; rfl | rw [zf (by assumption)]; rfl) rfl
theorem rwrit_3 (t : LTerm) (ht : OkT t) (hk : t.kind = 3) (hn : OkT t) (hf : (writeT t).length ≤ 1000000): CT 74 [elT t] (.s (writeT t)) := by
 refine sem_introB mixed Tryz.func74 g0 ?_
 · skip
   have e := write_eq t
   have hl := congrArg List.length e
   have n1 : ¬ t.kind = 1 := by omega
   have n2 : ¬ t.kind = 2 := by omega
   rw [if_neg n1, if_neg n2, if_pos hk] at e hl
   simp only [List.length_append, List.length_cons, List.length_nil] at hl
   simp -implicitDefEqProofs (disch := omega) only [zf n1, zf n2, zt hk, go_sem, ↓reduceIte, reduceAdd, reduceSub, reduceMul, reduceLeDiff, reduceLT, reduceEqDiff, reduceNeg, Nat.reduceBEq]
   (repeat' (first | refine gT ?_ ?_ | refine gF ?_ ?_ | refine gC ?_ ?_ | refine And.intro (by omega) ?_ | (intro hr; have hc := hr; (try simp only [zda, zdb, zdc, zdd] at hc); simp -implicitDefEqProofs (disch := omega) only [hr, zf n1, zf n2, zt hk, go_sem, ↓reduceIte, reduceAdd, reduceSub, reduceMul, reduceLeDiff, reduceLT, reduceEqDiff, reduceNeg, Nat.reduceBEq]; (try clear hr))))
   all_goals exact fin_eq (by first | (rw [e]; done) | (rw [e]; rfl)) rfl
theorem rwrit_4 (t : LTerm) (ht : OkT t) (hk : t.kind = 4) (hn : OkT t) (hf : (writeT t).length ≤ 1000000): CT 74 [elT t] (.s (writeT t)) := by
 refine sem_introB mixed Tryz.func74 g0 ?_
 · skip
   have e := write_eq t
   have hl := congrArg List.length e
   have n1 : ¬ t.kind = 1 := by omega
   have n2 : ¬ t.kind = 2 := by omega
   have n3 : ¬ t.kind = 3 := by omega
   rw [if_neg n1, if_neg n2, if_neg n3, if_pos hk] at e hl
   simp only [List.length_append, List.length_cons, List.length_nil] at hl
   simp -implicitDefEqProofs (disch := omega) only [zf n1, zf n2, zf n3, zt hk, go_sem, ↓reduceIte, reduceAdd, reduceSub, reduceMul, reduceLeDiff, reduceLT, reduceEqDiff, reduceNeg, Nat.reduceBEq]
   (repeat' (first | refine gT ?_ ?_ | refine gF ?_ ?_ | refine gC ?_ ?_ | refine And.intro (by omega) ?_ | (intro hr; have hc := hr; (try simp only [zda, zdb, zdc, zdd] at hc); simp -implicitDefEqProofs (disch := omega) only [hr, zf n1, zf n2, zf n3, zt hk, go_sem, ↓reduceIte, reduceAdd, reduceSub, reduceMul, reduceLeDiff, reduceLT, reduceEqDiff, reduceNeg, Nat.reduceBEq]; (try clear hr))))
   all_goals exact fin_eq (by first | (rw [e]; done) | (rw [e]; rfl)) rfl
theorem rwrit_5 (t : LTerm) (ht : OkT t) (hk : t.kind = 5) (ih : ∀ k ∈ t.kids, CT 74 [elT k] (.s (writeT k))) (hf : (writeT t).length ≤ 1000000): CT 74 [elT t] (.s (writeT t)) := by
 refine sem_introB mixed Tryz.func74 g0 ?_
 · skip
   have e := write_eq t
   have hl := congrArg List.length e
   have n1 : ¬ t.kind = 1 := by omega
   have n2 : ¬ t.kind = 2 := by omega
   have n3 : ¬ t.kind = 3 := by omega
   have n4 : ¬ t.kind = 4 := by omega
   have n6 : ¬ t.kind = 6 := by omega
   rw [if_neg n1, if_neg n2, if_neg n3, if_neg n4, if_pos hk] at e hl
   simp only [List.length_append, List.length_cons, List.length_nil] at hl
   have c := wrow t.kids ht.kids (by omega) ih
   simp -implicitDefEqProofs (disch := omega) only [zf n1, zf n2, zf n3, zf n4, zf n6, zt hk, go_sem, ↓reduceIte, reduceAdd, reduceSub, reduceMul, reduceLeDiff, reduceLT, reduceEqDiff, reduceNeg, Nat.reduceBEq]
   (repeat' (first | refine gT ?_ ?_ | refine gF ?_ ?_ | refine gC ?_ ?_ | ((refine c_ctrE (c) ?_ ?_; (focus (simp -implicitDefEqProofs (disch := omega) only [zf n1, zf n2, zf n3, zf n4, zf n6, zt hk, List.length_append, List.length_cons, List.length_nil, avs, avb, avi, avo, sigCells, opCells, pairCells, elT, avt, termCells_eq, go_sem, ↓reduceIte, reduceAdd, reduceSub, reduceMul, reduceLeDiff, reduceLT, reduceEqDiff, reduceNeg, Nat.reduceBEq]; done))); simp -implicitDefEqProofs (disch := omega) only [zf n1, zf n2, zf n3, zf n4, zf n6, zt hk, List.length_append, List.length_cons, List.length_nil, go_sem, ↓reduceIte, reduceAdd, reduceSub, reduceMul, reduceLeDiff, reduceLT, reduceEqDiff, reduceNeg, Nat.reduceBEq]) | refine And.intro (by omega) ?_ | (intro hr; have hc := hr; (try simp only [zda, zdb, zdc, zdd] at hc); simp -implicitDefEqProofs (disch := omega) only [hr, zf n1, zf n2, zf n3, zf n4, zf n6, zt hk, List.length_append, List.length_cons, List.length_nil, go_sem, ↓reduceIte, reduceAdd, reduceSub, reduceMul, reduceLeDiff, reduceLT, reduceEqDiff, reduceNeg, Nat.reduceBEq]; (try clear hr))))
   all_goals exact fin_eq (by first | (rw [e]; done) | (rw [e]; simp; done)) rfl
theorem rwrit_6 (t : LTerm) (ht : OkT t) (hk : t.kind = 6) (hn : OkT t) (hf : (writeT t).length ≤ 1000000): CT 74 [elT t] (.s (writeT t)) := by
 refine sem_introB mixed Tryz.func74 g0 ?_
 · skip
   have e := write_eq t
   have hl := congrArg List.length e
   have n1 : ¬ t.kind = 1 := by omega
   have n2 : ¬ t.kind = 2 := by omega
   have n3 : ¬ t.kind = 3 := by omega
   have n4 : ¬ t.kind = 4 := by omega
   have n5 : ¬ t.kind = 5 := by omega
   rw [if_neg n1, if_neg n2, if_neg n3, if_neg n4, if_neg n5, if_pos hk] at e hl
   rcases bool_em (openS t.text) with ho | ho
   · have ho' : t.text = [95] ∨ t.text = [36] := by simpa only [openS, Bool.or_eq_true, decide_eq_true_eq] using ho
     rw [if_pos ho, List.append_nil] at e
     simp -implicitDefEqProofs (disch := omega) only [zf n1, zf n2, zf n3, zf n4, zt hk, go_sem, ↓reduceIte, reduceAdd, reduceSub, reduceMul, reduceLeDiff, reduceLT, reduceEqDiff, reduceNeg, Nat.reduceBEq]
     (repeat' (first | refine gT ?_ ?_ | refine gF ?_ ?_ | refine gC ?_ ?_ | refine And.intro (by omega) ?_ | (intro hr; have hc := hr; (try simp only [zda, zdb, zdc, zdd] at hc); simp -implicitDefEqProofs (disch := omega) only [hr, zf n1, zf n2, zf n3, zf n4, zt hk, go_sem, ↓reduceIte, reduceAdd, reduceSub, reduceMul, reduceLeDiff, reduceLT, reduceEqDiff, reduceNeg, Nat.reduceBEq]; (try clear hr))))
     all_goals first
       | exact fin_eq (by rw [e]) rfl
       | (exfalso; simp_all; done)
   · have ho' : ¬ t.text = [95] ∧ ¬ t.text = [36] := by simpa only [openS, Bool.or_eq_false_iff, decide_eq_false_iff_not] using ho
     rw [if_neg (by rw [ho]; simp)] at e hl
     simp only [List.length_append, List.length_cons, List.length_nil] at hl
     simp -implicitDefEqProofs (disch := omega) only [zf n1, zf n2, zf n3, zf n4, zt hk, zf ho'.1, zf ho'.2, go_sem, ↓reduceIte, reduceAdd, reduceSub, reduceMul, reduceLeDiff, reduceLT, reduceEqDiff, reduceNeg, Nat.reduceBEq]
     (repeat' (first | refine gT ?_ ?_ | refine gF ?_ ?_ | refine gC ?_ ?_ | refine And.intro (by omega) ?_ | (intro hr; have hc := hr; (try simp only [zda, zdb, zdc, zdd] at hc); simp -implicitDefEqProofs (disch := omega) only [hr, zf n1, zf n2, zf n3, zf n4, zt hk, zf ho'.1, zf ho'.2, List.length_append, List.length_cons, List.length_nil, go_sem, ↓reduceIte, reduceAdd, reduceSub, reduceMul, reduceLeDiff, reduceLT, reduceEqDiff, reduceNeg, Nat.reduceBEq]; (try clear hr))))
     all_goals exact fin_eq (by first | (rw [e]; done) | (rw [e]; simp; done)) rfl
theorem rwrit_7 (t : LTerm) (ht : OkT t) (hk : t.kind = 7) (ih : ∀ k ∈ t.kids, CT 74 [elT k] (.s (writeT k))) (hr : t.rest.length ≤ 1) (hrw : (restW t.kids.length t.rest).length ≤ 1000) (hf : (writeT t).length ≤ 1000000): CT 74 [elT t] (.s (writeT t)) := by
 refine sem_introB mixed Tryz.func74 g0 ?_
 · skip
   have e := write_eq t
   have hl := congrArg List.length e
   have n1 : ¬ t.kind = 1 := by omega
   have n2 : ¬ t.kind = 2 := by omega
   have n3 : ¬ t.kind = 3 := by omega
   have n4 : ¬ t.kind = 4 := by omega
   have n5 : ¬ t.kind = 5 := by omega
   have n6 : ¬ t.kind = 6 := by omega
   rw [if_neg n1, if_neg n2, if_neg n3, if_neg n4, if_neg n5, if_neg n6, if_pos hk] at e hl
   simp only [List.length_append, List.length_cons, List.length_nil] at hl
   have c := wrow t.kids ht.kids (by omega) ih
   have c2 := wtail t ht hrw hr
   have hz : decide (((t.kids.length : Nat) : Int) = 0) = decide (t.kids.length = 0) := by rw [decide_eq_decide]; omega
   simp -implicitDefEqProofs (disch := omega) only [zf n1, zf n2, zf n3, zf n4, zf n5, zf n6, zt hk, go_sem, ↓reduceIte, reduceAdd, reduceSub, reduceMul, reduceLeDiff, reduceLT, reduceEqDiff, reduceNeg, Nat.reduceBEq]
   (repeat' (first | refine gT ?_ ?_ | refine gF ?_ ?_ | refine gC ?_ ?_ | ((first | (refine c_ctrE (c) ?_ ?_; (focus (simp -implicitDefEqProofs (disch := omega) only [zf n1, zf n2, zf n3, zf n4, zf n5, zf n6, zt hk, hz, List.length_append, List.length_cons, List.length_nil, avs, avb, avi, avo, sigCells, opCells, pairCells, elT, avt, termCells_eq, go_sem, ↓reduceIte, reduceAdd, reduceSub, reduceMul, reduceLeDiff, reduceLT, reduceEqDiff, reduceNeg, Nat.reduceBEq]; done))) | (refine c_ctrE (c2) ?_ ?_; (focus (simp -implicitDefEqProofs (disch := omega) only [zf n1, zf n2, zf n3, zf n4, zf n5, zf n6, zt hk, hz, List.length_append, List.length_cons, List.length_nil, avs, avb, avi, avo, sigCells, opCells, pairCells, elT, avt, termCells_eq, go_sem, ↓reduceIte, reduceAdd, reduceSub, reduceMul, reduceLeDiff, reduceLT, reduceEqDiff, reduceNeg, Nat.reduceBEq]; done)))); simp -implicitDefEqProofs (disch := omega) only [zf n1, zf n2, zf n3, zf n4, zf n5, zf n6, zt hk, hz, List.length_append, List.length_cons, List.length_nil, go_sem, ↓reduceIte, reduceAdd, reduceSub, reduceMul, reduceLeDiff, reduceLT, reduceEqDiff, reduceNeg, Nat.reduceBEq]) | refine And.intro (by omega) ?_ | (intro hr; have hc := hr; (try simp only [zda, zdb, zdc, zdd] at hc); simp -implicitDefEqProofs (disch := omega) only [hr, zf n1, zf n2, zf n3, zf n4, zf n5, zf n6, zt hk, hz, List.length_append, List.length_cons, List.length_nil, go_sem, ↓reduceIte, reduceAdd, reduceSub, reduceMul, reduceLeDiff, reduceLT, reduceEqDiff, reduceNeg, Nat.reduceBEq]; (try clear hr))))
   all_goals exact fin_eq (by first | (rw [e]; done) | (rw [e]; simp; done)) rfl
theorem rwrit_8 (t : LTerm) (ht : OkT t) (hk : t.kind = 8) (ih : ∀ k ∈ t.kids, CT 74 [elT k] (.s (writeT k))) (hr : t.rest.length ≤ 1) (hrw : (restW t.kids.length t.rest).length ≤ 1000) (he : t.kids.length % 2 = 0) (hf : (writeT t).length ≤ 1000000): CT 74 [elT t] (.s (writeT t)) := by
 refine sem_introB mixed Tryz.func74 g0 ?_
 · skip
   have e := write_eq t
   have hl := congrArg List.length e
   have hk1 := ht.kids
   have n1 : ¬ t.kind = 1 := by omega
   have n2 : ¬ t.kind = 2 := by omega
   have n3 : ¬ t.kind = 3 := by omega
   have n4 : ¬ t.kind = 4 := by omega
   have n5 : ¬ t.kind = 5 := by omega
   have n6 : ¬ t.kind = 6 := by omega
   have n7 : ¬ t.kind = 7 := by omega
   rw [if_neg n1, if_neg n2, if_neg n3, if_neg n4, if_neg n5, if_neg n6, if_neg n7, if_pos hk] at e hl
   simp only [List.length_append, List.length_cons, List.length_nil] at hl
   have c2 := wtail t ht hrw hr
   have hz : decide (((t.kids.length : Nat) : Int) = 0) = decide (t.kids.length = 0) := by rw [decide_eq_decide]; omega
   simp -implicitDefEqProofs (disch := omega) only [zf n1, zf n2, zf n3, zf n4, zf n5, zf n6, zf n7, zt hk, go_sem, ↓reduceIte, reduceAdd, reduceSub, reduceMul, reduceLeDiff, reduceLT, reduceEqDiff, reduceNeg, Nat.reduceBEq]
   (repeat' (first | refine gT ?_ ?_ | refine gF ?_ ?_ | refine gC ?_ ?_ | refine And.intro (by omega) ?_ | (intro hr; have hc := hr; (try simp only [zda, zdb, zdc, zdd] at hc); simp -implicitDefEqProofs (disch := omega) only [hr, zf n1, zf n2, zf n3, zf n4, zf n5, zf n6, zf n7, zt hk, go_sem, ↓reduceIte, reduceAdd, reduceSub, reduceMul, reduceLeDiff, reduceLT, reduceEqDiff, reduceNeg, Nat.reduceBEq]; (try clear hr))))
   refine x_loopJ (fun (k : Nat) => [.k, .k, .k, .v (.s (123 :: listW (pairW ((t.kids.take (2 * k)).map writeT)))), .v (.i .i64 ((2 * k : Nat) : Int)), .k, .k, .k, .k, .k, .k, .k, .k, .k, .k, .k, .k, .k, .k, .k, .k, .k, .k, .k, .k, .k, .k, .k, .k, .k, .k, .k, .k, .k, .k, .k, .k, .k, .k, .k, .k, .k, .k, .k, .k, .k, .k, .k, .k, .k, .k, .k, .k, .k, .k, .k, .k, .k, .k, .k, .k, .k, .k, .k, .k, .k, .k, .k, .k, .k, .k, .j, .j, .j, .j, .j, .j, .j, .j, .j, .j, .j, .j, .j, .j, .j, .j, .j, .j, .j, .j, .j, .j, .j, .j, .j, .j, .j, .j, .j, .k, .k, .k, .k, .k, .k, .k, .k, .k, .k]) (fun k => [.box false [.i .i64 (t).kind, .i .i64 (t).n, .s (t).text, .s (t).sort, .sl ((t).kids.flatMap termCells) (t).kids.length, .sl ((t).rest.flatMap termCells) (t).rest.length]]) (fun k => 2 * k ≤ t.kids.length) (fun k => t.kids.length - 2 * k) (0) (Nat.zero_le _) rfl (by simp [Fits]) ?_
   rintro k j hkk
   by_cases hlt : 2 * k + 1 < t.kids.length
   · have hki : ((2 * k : Nat) : Int) + 1 < ((t.kids.length : Nat) : Int) := by omega
     have f1 := pairW_take hlt
     have f2 := pairW_mono (k := k + 1) he (by omega)
     have f3 := congrArg List.length f1
     have ia := ih _ (mem_getD (d := default) (show 2 * k < t.kids.length by omega))
     have ib := ih _ (mem_getD (d := default) hlt)
     by_cases hk0 : 0 < k
     · have hk1 : (0 : Int) < ((2 * k : Nat) : Int) := by omega
       rw [if_pos hk0] at f1 f3
       simp only [List.length_append, List.length_cons, List.length_nil] at f3
       simp -implicitDefEqProofs (disch := omega) only [zt hki, zt hk1, go_sem, ↓reduceIte, reduceAdd, reduceSub, reduceMul, reduceLeDiff, reduceLT, reduceEqDiff, reduceNeg, Nat.reduceBEq]
       (repeat' (first | refine gT ?_ ?_ | refine gF ?_ ?_ | refine gC ?_ ?_ | ((first | (refine c_ctrE (ia) ?_ ?_; (focus (simp -implicitDefEqProofs (disch := omega) only [zt hki, zt hk1, castK, List.length_append, List.length_cons, List.length_nil, avs, avb, avi, avo, sigCells, opCells, pairCells, elT, avt, termCells_eq, go_sem, ↓reduceIte, reduceAdd, reduceSub, reduceMul, reduceLeDiff, reduceLT, reduceEqDiff, reduceNeg, Nat.reduceBEq]; done))) | (refine c_ctrE (ib) ?_ ?_; (focus (simp -implicitDefEqProofs (disch := omega) only [zt hki, zt hk1, castK, List.length_append, List.length_cons, List.length_nil, avs, avb, avi, avo, sigCells, opCells, pairCells, elT, avt, termCells_eq, go_sem, ↓reduceIte, reduceAdd, reduceSub, reduceMul, reduceLeDiff, reduceLT, reduceEqDiff, reduceNeg, Nat.reduceBEq]; done)))); simp -implicitDefEqProofs (disch := omega) only [zt hki, zt hk1, castK, List.length_append, List.length_cons, List.length_nil, go_sem, ↓reduceIte, reduceAdd, reduceSub, reduceMul, reduceLeDiff, reduceLT, reduceEqDiff, reduceNeg, Nat.reduceBEq]) | refine And.intro (by omega) ?_ | (intro hr; have hc := hr; (try simp only [zda, zdb, zdc, zdd] at hc); simp -implicitDefEqProofs (disch := omega) only [hr, zt hki, zt hk1, castK, List.length_append, List.length_cons, List.length_nil, go_sem, ↓reduceIte, reduceAdd, reduceSub, reduceMul, reduceLeDiff, reduceLT, reduceEqDiff, reduceNeg, Nat.reduceBEq]; (try clear hr))))
       all_goals exact ⟨k + 1, by omega, by omega, by rw [f1]; simp, by simp; omega⟩
     · have hk1 : ¬ (0 : Int) < ((2 * k : Nat) : Int) := by omega
       rw [if_neg hk0] at f1 f3
       simp only [List.length_append, List.length_cons, List.length_nil] at f3
       simp -implicitDefEqProofs (disch := omega) only [zt hki, zf hk1, go_sem, ↓reduceIte, reduceAdd, reduceSub, reduceMul, reduceLeDiff, reduceLT, reduceEqDiff, reduceNeg, Nat.reduceBEq]
       (repeat' (first | refine gT ?_ ?_ | refine gF ?_ ?_ | refine gC ?_ ?_ | ((first | (refine c_ctrE (ia) ?_ ?_; (focus (simp -implicitDefEqProofs (disch := omega) only [zt hki, zf hk1, castK, List.length_append, List.length_cons, List.length_nil, avs, avb, avi, avo, sigCells, opCells, pairCells, elT, avt, termCells_eq, go_sem, ↓reduceIte, reduceAdd, reduceSub, reduceMul, reduceLeDiff, reduceLT, reduceEqDiff, reduceNeg, Nat.reduceBEq]; done))) | (refine c_ctrE (ib) ?_ ?_; (focus (simp -implicitDefEqProofs (disch := omega) only [zt hki, zf hk1, castK, List.length_append, List.length_cons, List.length_nil, avs, avb, avi, avo, sigCells, opCells, pairCells, elT, avt, termCells_eq, go_sem, ↓reduceIte, reduceAdd, reduceSub, reduceMul, reduceLeDiff, reduceLT, reduceEqDiff, reduceNeg, Nat.reduceBEq]; done)))); simp -implicitDefEqProofs (disch := omega) only [zt hki, zf hk1, castK, List.length_append, List.length_cons, List.length_nil, go_sem, ↓reduceIte, reduceAdd, reduceSub, reduceMul, reduceLeDiff, reduceLT, reduceEqDiff, reduceNeg, Nat.reduceBEq]) | refine And.intro (by omega) ?_ | (intro hr; have hc := hr; (try simp only [zda, zdb, zdc, zdd] at hc); simp -implicitDefEqProofs (disch := omega) only [hr, zt hki, zf hk1, castK, List.length_append, List.length_cons, List.length_nil, go_sem, ↓reduceIte, reduceAdd, reduceSub, reduceMul, reduceLeDiff, reduceLT, reduceEqDiff, reduceNeg, Nat.reduceBEq]; (try clear hr))))
       all_goals exact ⟨k + 1, by omega, by omega, by rw [f1]; simp, by simp; omega⟩
   · have hki : ¬ ((2 * k : Nat) : Int) + 1 < ((t.kids.length : Nat) : Int) := by omega
     have hT : t.kids.take (2 * k) = t.kids := List.take_of_length_le (by omega)
     rw [hT]
     simp -implicitDefEqProofs (disch := omega) only [zf hki, go_sem, ↓reduceIte, reduceAdd, reduceSub, reduceMul, reduceLeDiff, reduceLT, reduceEqDiff, reduceNeg, Nat.reduceBEq]
     (repeat' (first | refine gT ?_ ?_ | refine gF ?_ ?_ | refine gC ?_ ?_ | ((refine c_ctrE (c2) ?_ ?_; (focus (simp -implicitDefEqProofs (disch := omega) only [zf hki, hz, List.length_append, List.length_cons, List.length_nil, avs, avb, avi, avo, sigCells, opCells, pairCells, elT, avt, termCells_eq, go_sem, ↓reduceIte, reduceAdd, reduceSub, reduceMul, reduceLeDiff, reduceLT, reduceEqDiff, reduceNeg, Nat.reduceBEq]; done))); simp -implicitDefEqProofs (disch := omega) only [zf hki, hz, List.length_append, List.length_cons, List.length_nil, go_sem, ↓reduceIte, reduceAdd, reduceSub, reduceMul, reduceLeDiff, reduceLT, reduceEqDiff, reduceNeg, Nat.reduceBEq]) | refine And.intro (by omega) ?_ | (intro hr; have hc := hr; (try simp only [zda, zdb, zdc, zdd] at hc); simp -implicitDefEqProofs (disch := omega) only [hr, zf hki, hz, List.length_append, List.length_cons, List.length_nil, go_sem, ↓reduceIte, reduceAdd, reduceSub, reduceMul, reduceLeDiff, reduceLT, reduceEqDiff, reduceNeg, Nat.reduceBEq]; (try clear hr))))
     all_goals exact fin_eq (by first | (rw [e]; done) | (rw [e]; simp; done)) rfl
theorem ctr366 : ∀ t : LTerm, OkT t → wfT nodeB t = true → nodesT t ≤ 2000 → CT 74 [elT t] (.s (writeT t)) :=
 term_ind (Q := fun t => OkT t → wfT nodeB t = true → nodesT t ≤ 2000 → CT 74 [elT t] (.s (writeT t))) fun t hk _ ht hw hn => by
   have hw' := wfT_eq.1 hw
   have hlen := write_len t hw
   have en : nodesT t = 1 + t.rest.length + nodesL t.kids := by cases t; rw [nodesT]; rfl
   have mem : ∀ (l : List LTerm) (k : LTerm), k ∈ l → nodesT k ≤ nodesL l := by
     intro l k
     induction l with
     | nil => intro h; cases h
     | cons x l ih =>
       intro h
       rw [nodesL]
       rcases List.mem_cons.1 h with rfl | h
       · omega
       · have := ih h; omega
   have ih : ∀ k ∈ t.kids, CT 74 [elT k] (.s (writeT k)) := fun k hm => hk k hm (ht.kid k hm) (hw'.2 k hm) (by have := mem _ _ hm; omega)
   have hnb := hw'.1
   have hr1 := nodeB_rest t hnb
   have hr := nodeB_k hnb
   have hf : (writeT t).length ≤ 1000000 := by omega
   by_cases h1 : t.kind = 1
   · rw [nodeB_1 h1, Bool.and_eq_true] at hnb
     exact rwrit_1 t ht h1 hnb.1 hf
   by_cases h2 : t.kind = 2
   · exact rwrit_2 t ht h2 ht hf
   by_cases h3 : t.kind = 3
   · exact rwrit_3 t ht h3 ht hf
   by_cases h4 : t.kind = 4
   · exact rwrit_4 t ht h4 ht hf
   by_cases h5 : t.kind = 5
   · exact rwrit_5 t ht h5 ih hf
   by_cases h6 : t.kind = 6
   · exact rwrit_6 t ht h6 ht hf
   by_cases h7 : t.kind = 7
   · rw [nodeB_7 h7, Bool.and_eq_true] at hnb
     exact rwrit_7 t ht h7 ih hr1 (by have := rest_len hnb.1; omega) hf
   have h8 : t.kind = 8 := by omega
   rw [nodeB_8 h8, Bool.and_eq_true, Bool.and_eq_true, decide_eq_true_eq] at hnb
   exact rwrit_8 t ht h8 ih hr1 (by have := rest_len hnb.1.1; omega) hnb.1.2 hf
theorem ctr345 (t : LTerm) (ht : OkT t): CT 37 [elT t] (sortAV (textV t)) := by
 refine sem_introB mixed Tryz.func37 g0 ?_
 · skip
   have c1 := ctr252 t ht
   rw [sortAV, textV]
   rcases bool_em (validT nodeB t) with h1 | h1
   · have hw := valid_wf h1
     have hn : nodesT t ≤ 2000 := by simp only [validT, Bool.and_eq_true, decide_eq_true_eq] at h1; exact h1.2
     have c2 := ctr366 t ht hw hn
     rw [h1] at c1
     rw [if_pos h1]
     by_cases h2 : 20000 < (writeT t).length
     · have h3 : (20000 : Int) < (((writeT t).length : Nat) : Int) := by omega
       (repeat' (first | refine gT ?_ ?_ | refine gF ?_ ?_ | refine gC ?_ ?_ | ((first | (refine c_ctrE (c1) ?_ ?_; (focus (simp -implicitDefEqProofs (disch := omega) only [zt h3, avs, avb, avi, avo, sigCells, opCells, pairCells, elT, avt, termCells_eq, go_sem, ↓reduceIte, reduceAdd, reduceSub, reduceMul, reduceLeDiff, reduceLT, reduceEqDiff, reduceNeg, Nat.reduceBEq]; done))) | (refine c_ctrE (c2) ?_ ?_; (focus (simp -implicitDefEqProofs (disch := omega) only [zt h3, avs, avb, avi, avo, sigCells, opCells, pairCells, elT, avt, termCells_eq, go_sem, ↓reduceIte, reduceAdd, reduceSub, reduceMul, reduceLeDiff, reduceLT, reduceEqDiff, reduceNeg, Nat.reduceBEq]; done)))); simp -implicitDefEqProofs (disch := omega) only [zt h3, go_sem, ↓reduceIte, reduceAdd, reduceSub, reduceMul, reduceLeDiff, reduceLT, reduceEqDiff, reduceNeg, Nat.reduceBEq]) | refine And.intro (by omega) ?_ | (intro hr; have hc := hr; (try simp only [zda, zdb, zdc, zdd] at hc); simp -implicitDefEqProofs (disch := omega) only [hr, zt h3, go_sem, ↓reduceIte, reduceAdd, reduceSub, reduceMul, reduceLeDiff, reduceLT, reduceEqDiff, reduceNeg, Nat.reduceBEq]; (try clear hr))))
       all_goals exact fin_eq (by first | rfl | rw [if_pos h2]) rfl
     · have h3 : ¬ (20000 : Int) < (((writeT t).length : Nat) : Int) := by omega
       (repeat' (first | refine gT ?_ ?_ | refine gF ?_ ?_ | refine gC ?_ ?_ | ((first | (refine c_ctrE (c1) ?_ ?_; (focus (simp -implicitDefEqProofs (disch := omega) only [zf h3, avs, avb, avi, avo, sigCells, opCells, pairCells, elT, avt, termCells_eq, go_sem, ↓reduceIte, reduceAdd, reduceSub, reduceMul, reduceLeDiff, reduceLT, reduceEqDiff, reduceNeg, Nat.reduceBEq]; done))) | (refine c_ctrE (c2) ?_ ?_; (focus (simp -implicitDefEqProofs (disch := omega) only [zf h3, avs, avb, avi, avo, sigCells, opCells, pairCells, elT, avt, termCells_eq, go_sem, ↓reduceIte, reduceAdd, reduceSub, reduceMul, reduceLeDiff, reduceLT, reduceEqDiff, reduceNeg, Nat.reduceBEq]; done)))); simp -implicitDefEqProofs (disch := omega) only [zf h3, go_sem, ↓reduceIte, reduceAdd, reduceSub, reduceMul, reduceLeDiff, reduceLT, reduceEqDiff, reduceNeg, Nat.reduceBEq]) | refine And.intro (by omega) ?_ | (intro hr; have hc := hr; (try simp only [zda, zdb, zdc, zdd] at hc); simp -implicitDefEqProofs (disch := omega) only [hr, zf h3, go_sem, ↓reduceIte, reduceAdd, reduceSub, reduceMul, reduceLeDiff, reduceLT, reduceEqDiff, reduceNeg, Nat.reduceBEq]; (try clear hr))))
       all_goals exact fin_eq (by first | rfl | rw [if_neg h2]) rfl
   · rw [h1] at c1
     rw [if_neg (by rw [h1]; simp)]
     (repeat' (first | refine gT ?_ ?_ | refine gF ?_ ?_ | refine gC ?_ ?_ | ((refine c_ctrE (c1) ?_ ?_; (focus (simp -implicitDefEqProofs (disch := omega) only [avs, avb, avi, avo, sigCells, opCells, pairCells, elT, avt, termCells_eq, go_sem, ↓reduceIte, reduceAdd, reduceSub, reduceMul, reduceLeDiff, reduceLT, reduceEqDiff, reduceNeg, Nat.reduceBEq]; done))); simp -implicitDefEqProofs (disch := omega) only [go_sem, ↓reduceIte, reduceAdd, reduceSub, reduceMul, reduceLeDiff, reduceLT, reduceEqDiff, reduceNeg, Nat.reduceBEq]) | refine And.intro (by omega) ?_ | (intro hr; have hc := hr; (try simp only [zda, zdb, zdc, zdd] at hc); simp -implicitDefEqProofs (disch := omega) only [hr, go_sem, ↓reduceIte, reduceAdd, reduceSub, reduceMul, reduceLeDiff, reduceLT, reduceEqDiff, reduceNeg, Nat.reduceBEq]; (try clear hr))))
     all_goals exact fin_eq rfl rfl

theorem ctr319 (t : LTerm) (ht : OkT t): CT 5 [elT t] (.b true) := by
 refine sem_intro (rx := true) (th := fun _ => none) mixed Tryz.func5 rfl (by kernel_rfl) (by kernel_rfl) (ac := ?_) ?_ g0 ?_
 rotate_left
 · simp only [strip, splitQ, stripOps, stripOp, hoist, List.filter_cons, List.filter_nil, List.nil_append, List.cons_append, isFree, anyPre, Region.binds, Bool.not_true, Bool.not_false, Bool.false_eq_true, if_true, if_false, Option.isNone_none, Option.isNone_some, Bool.true_and, Bool.false_and, List.map_nil, List.map_cons, List.isEmpty_nil, List.isEmpty_cons, List.append_nil, ckOf, preIs, isMade, isApp, List.getElem?_toArray, List.getElem?_cons_zero, List.getElem?_cons_succ, Bool.or_false, Bool.or_true, Bool.true_or, Bool.false_or, beq_self_eq_true, Option.some_beq_some, Nat.reduceBEq, hasApp, lateOn, isStore, isRd, List.any_cons, List.any_nil, Bool.or_self, Bool.and_self, mode_gc, mode_text]
   rfl
 · simp -implicitDefEqProofs (disch := omega) only [Tryz.f5, go_sem, List.replicate, ↓reduceIte, reduceAdd, reduceSub, reduceMul, reduceLeDiff, reduceLT, reduceEqDiff, reduceNeg, Nat.reduceBEq, List.flatten_cons, List.flatten_nil, List.append_nil]
   have ft := few1 t ht
   rcases bool_em (fewP 2600 [t]) with h1 | h1
   · rw [h1] at ft
     have s1 := ctr338 t ht
     have s2 := ctr339 t ht
     have d1 := ctr340 t ht
     have d2 := ctr341 t ht
     have v1 := ctr342 t ht
     have v2 := ctr343 t ht
     have w1 := ctr344 t ht
     have w2 := ctr345 t ht
     obtain ⟨l, e5, hl, hv⟩ : ∃ (l : List Str) (e : Int), l.length ≤ 1000000 ∧ varsR t = .tup [avs l, .i .i64 e] := by
       rcases bool_em (validT nodeB t) with h | h
       · refine ⟨varsV t, 0, ?_, by rw [varsR, h]; rfl⟩
         have hw := valid_wf h
         have hn : nodesT t ≤ 2000 := by simp only [validT, Bool.and_eq_true, decide_eq_true_eq] at h; omega
         have := visR_len (vs := vis t 1) (l := [])
         rw [vars_same, vis_len t hw] at this
         simp at this; omega
       · exact ⟨[], 2, by simp, by rw [varsR, h]; rfl⟩
     rw [hv] at v1 v2
     generalize sizeV t = p1 at s1 s2
     generalize depthV t = p2 at d1 d2
     generalize textV t = p3 at w1 w2
     obtain ⟨x1, e1⟩ := p1
     obtain ⟨x2, e2⟩ := p2
     obtain ⟨x3, e3⟩ := p3
     (repeat' (first | refine gT ?_ ?_ | refine gF ?_ ?_ | refine gC ?_ ?_ | ((first | (refine c_ctrE (ft) ?_ ?_; (focus (simp -implicitDefEqProofs (disch := omega) only [List.flatMap_cons, List.flatMap_nil, List.append_nil, List.length_cons, List.length_nil, rep1t, List.flatten_cons, List.flatten_nil, numAV, sortAV, eq_self, decide_true, not_true_eq_false, decide_false, ne_eq, Bool.not_true, avs, avb, avi, avo, sigCells, opCells, pairCells, elT, avt, termCells_eq, go_sem, ↓reduceIte, reduceAdd, reduceSub, reduceMul, reduceLeDiff, reduceLT, reduceEqDiff, reduceNeg, Nat.reduceBEq]; done))) | (refine c_ctrE (s1) ?_ ?_; (focus (simp -implicitDefEqProofs (disch := omega) only [List.flatMap_cons, List.flatMap_nil, List.append_nil, List.length_cons, List.length_nil, rep1t, List.flatten_cons, List.flatten_nil, numAV, sortAV, eq_self, decide_true, not_true_eq_false, decide_false, ne_eq, Bool.not_true, avs, avb, avi, avo, sigCells, opCells, pairCells, elT, avt, termCells_eq, go_sem, ↓reduceIte, reduceAdd, reduceSub, reduceMul, reduceLeDiff, reduceLT, reduceEqDiff, reduceNeg, Nat.reduceBEq]; done))) | (refine c_ctrE (s2) ?_ ?_; (focus (simp -implicitDefEqProofs (disch := omega) only [List.flatMap_cons, List.flatMap_nil, List.append_nil, List.length_cons, List.length_nil, rep1t, List.flatten_cons, List.flatten_nil, numAV, sortAV, eq_self, decide_true, not_true_eq_false, decide_false, ne_eq, Bool.not_true, avs, avb, avi, avo, sigCells, opCells, pairCells, elT, avt, termCells_eq, go_sem, ↓reduceIte, reduceAdd, reduceSub, reduceMul, reduceLeDiff, reduceLT, reduceEqDiff, reduceNeg, Nat.reduceBEq]; done))) | (refine c_ctrE (d1) ?_ ?_; (focus (simp -implicitDefEqProofs (disch := omega) only [List.flatMap_cons, List.flatMap_nil, List.append_nil, List.length_cons, List.length_nil, rep1t, List.flatten_cons, List.flatten_nil, numAV, sortAV, eq_self, decide_true, not_true_eq_false, decide_false, ne_eq, Bool.not_true, avs, avb, avi, avo, sigCells, opCells, pairCells, elT, avt, termCells_eq, go_sem, ↓reduceIte, reduceAdd, reduceSub, reduceMul, reduceLeDiff, reduceLT, reduceEqDiff, reduceNeg, Nat.reduceBEq]; done))) | (refine c_ctrE (d2) ?_ ?_; (focus (simp -implicitDefEqProofs (disch := omega) only [List.flatMap_cons, List.flatMap_nil, List.append_nil, List.length_cons, List.length_nil, rep1t, List.flatten_cons, List.flatten_nil, numAV, sortAV, eq_self, decide_true, not_true_eq_false, decide_false, ne_eq, Bool.not_true, avs, avb, avi, avo, sigCells, opCells, pairCells, elT, avt, termCells_eq, go_sem, ↓reduceIte, reduceAdd, reduceSub, reduceMul, reduceLeDiff, reduceLT, reduceEqDiff, reduceNeg, Nat.reduceBEq]; done))) | (refine c_ctrE (v1) ?_ ?_; (focus (simp -implicitDefEqProofs (disch := omega) only [List.flatMap_cons, List.flatMap_nil, List.append_nil, List.length_cons, List.length_nil, rep1t, List.flatten_cons, List.flatten_nil, numAV, sortAV, eq_self, decide_true, not_true_eq_false, decide_false, ne_eq, Bool.not_true, avs, avb, avi, avo, sigCells, opCells, pairCells, elT, avt, termCells_eq, go_sem, ↓reduceIte, reduceAdd, reduceSub, reduceMul, reduceLeDiff, reduceLT, reduceEqDiff, reduceNeg, Nat.reduceBEq]; done))) | (refine c_ctrE (v2) ?_ ?_; (focus (simp -implicitDefEqProofs (disch := omega) only [List.flatMap_cons, List.flatMap_nil, List.append_nil, List.length_cons, List.length_nil, rep1t, List.flatten_cons, List.flatten_nil, numAV, sortAV, eq_self, decide_true, not_true_eq_false, decide_false, ne_eq, Bool.not_true, avs, avb, avi, avo, sigCells, opCells, pairCells, elT, avt, termCells_eq, go_sem, ↓reduceIte, reduceAdd, reduceSub, reduceMul, reduceLeDiff, reduceLT, reduceEqDiff, reduceNeg, Nat.reduceBEq]; done)))); simp -implicitDefEqProofs (disch := omega) only [List.flatMap_cons, List.flatMap_nil, List.append_nil, List.length_cons, List.length_nil, rep1t, List.flatten_cons, List.flatten_nil, numAV, sortAV, eq_self, decide_true, not_true_eq_false, decide_false, ne_eq, Bool.not_true, go_sem, ↓reduceIte, reduceAdd, reduceSub, reduceMul, reduceLeDiff, reduceLT, reduceEqDiff, reduceNeg, Nat.reduceBEq]) | refine And.intro (by omega) ?_ | (intro hr; have hc := hr; (try simp only [zda, zdb, zdc, zdd] at hc); simp -implicitDefEqProofs (disch := omega) only [hr, List.flatMap_cons, List.flatMap_nil, List.append_nil, List.length_cons, List.length_nil, rep1t, List.flatten_cons, List.flatten_nil, numAV, sortAV, eq_self, decide_true, not_true_eq_false, decide_false, ne_eq, Bool.not_true, go_sem, ↓reduceIte, reduceAdd, reduceSub, reduceMul, reduceLeDiff, reduceLT, reduceEqDiff, reduceNeg, Nat.reduceBEq]; (try clear hr))))
     refine x_loopJ (fun (k : Nat) => [.k, .k, .j, .k, .k, .k, .k, .k, .k, .j, .k, .k, .k, .k, .k, .k, .k, .k, .k, .k, .k, .k, .k, .k, .k, .k, .k, .k, .k, .k, .k, .k, .k, .k, .k, .k, .k, .k, .k, .k, .k, .k, .k, .k, .k, .k, .k, .k, .k, .k, .k, .k, .k, .k, .k, .k, .k, .k, .k, .k, .k, .k, .k, .k, .k, .k, .k, .k, .k, .k, .k, .k, .k, .k, .k, .v (.i .i64 (k : Nat)), .j, .j, .j, .j, .j, .j, .j, .j, .j, .j, .j, .j, .k, .k, .k, .k, .k, .k, .k, .k, .k, .k, .k, .k, .k, .k, .k, .k, .k, .k, .k, .k, .k]) (fun k => [.box false [.i .i64 (t).kind, .i .i64 (t).n, .s (t).text, .s (t).sort, .sl ((t).kids.flatMap termCells) (t).kids.length, .sl ((t).rest.flatMap termCells) (t).rest.length], .arr false 6 [.i .i64 (t).kind, .i .i64 (t).n, .s (t).text, .s (t).sort, .sl ((t).kids.flatMap termCells) (t).kids.length, .sl ((t).rest.flatMap termCells) (t).rest.length]]) (fun k => k ≤ l.length) (fun k => l.length - k) (0) (Nat.zero_le _) rfl (by simp [Fits]) ?_
     rintro k j hk
     by_cases hlt : k < l.length
     · have hki : (k : Int) < ((l.length : Nat) : Int) := by omega
       simp -implicitDefEqProofs (disch := omega) only [zt hki, go_sem, ↓reduceIte, reduceAdd, reduceSub, reduceMul, reduceLeDiff, reduceLT, reduceEqDiff, reduceNeg, Nat.reduceBEq]
       (repeat' (first | refine gT ?_ ?_ | refine gF ?_ ?_ | refine gC ?_ ?_ | refine And.intro (by omega) ?_ | (intro hr; have hc := hr; (try simp only [zda, zdb, zdc, zdd] at hc); simp -implicitDefEqProofs (disch := omega) only [hr, zt hki, eq_self, decide_true, not_true_eq_false, decide_false, ne_eq, Bool.not_true, go_sem, ↓reduceIte, reduceAdd, reduceSub, reduceMul, reduceLeDiff, reduceLT, reduceEqDiff, reduceNeg, Nat.reduceBEq]; (try clear hr))))
       all_goals first
         | exact ⟨k + 1, by omega, by omega, by simp⟩
         | (exfalso; simp_all; done)
     · have hki : ¬ (k : Int) < ((l.length : Nat) : Int) := by omega
       simp -implicitDefEqProofs (disch := omega) only [zf hki, go_sem, ↓reduceIte, reduceAdd, reduceSub, reduceMul, reduceLeDiff, reduceLT, reduceEqDiff, reduceNeg, Nat.reduceBEq]
       (repeat' (first | refine gT ?_ ?_ | refine gF ?_ ?_ | refine gC ?_ ?_ | ((first | (refine c_ctrE (w1) ?_ ?_; (focus (simp -implicitDefEqProofs (disch := omega) only [zf hki, sortAV, eq_self, decide_true, avs, avb, avi, avo, sigCells, opCells, pairCells, elT, avt, termCells_eq, go_sem, ↓reduceIte, reduceAdd, reduceSub, reduceMul, reduceLeDiff, reduceLT, reduceEqDiff, reduceNeg, Nat.reduceBEq]; done))) | (refine c_ctrE (w2) ?_ ?_; (focus (simp -implicitDefEqProofs (disch := omega) only [zf hki, sortAV, eq_self, decide_true, avs, avb, avi, avo, sigCells, opCells, pairCells, elT, avt, termCells_eq, go_sem, ↓reduceIte, reduceAdd, reduceSub, reduceMul, reduceLeDiff, reduceLT, reduceEqDiff, reduceNeg, Nat.reduceBEq]; done))) | (refine c_ctrE (ctr328) ?_ ?_; (focus (simp -implicitDefEqProofs (disch := omega) only [zf hki, sortAV, eq_self, decide_true, avs, avb, avi, avo, sigCells, opCells, pairCells, elT, avt, termCells_eq, go_sem, ↓reduceIte, reduceAdd, reduceSub, reduceMul, reduceLeDiff, reduceLT, reduceEqDiff, reduceNeg, Nat.reduceBEq]; done)))); simp -implicitDefEqProofs (disch := omega) only [zf hki, sortAV, eq_self, decide_true, go_sem, ↓reduceIte, reduceAdd, reduceSub, reduceMul, reduceLeDiff, reduceLT, reduceEqDiff, reduceNeg, Nat.reduceBEq]) | refine And.intro (by omega) ?_ | (intro hr; have hc := hr; (try simp only [zda, zdb, zdc, zdd] at hc); simp -implicitDefEqProofs (disch := omega) only [hr, zf hki, sortAV, eq_self, decide_true, go_sem, ↓reduceIte, reduceAdd, reduceSub, reduceMul, reduceLeDiff, reduceLT, reduceEqDiff, reduceNeg, Nat.reduceBEq]; (try clear hr))))
       all_goals exact fin_eq rfl rfl
   · rw [h1] at ft
     (repeat' (first | refine gT ?_ ?_ | refine gF ?_ ?_ | refine gC ?_ ?_ | ((first | (refine c_ctrE (ft) ?_ ?_; (focus (simp -implicitDefEqProofs (disch := omega) only [List.flatMap_cons, List.flatMap_nil, List.append_nil, List.length_cons, List.length_nil, rep1t, List.flatten_cons, List.flatten_nil, avs, avb, avi, avo, sigCells, opCells, pairCells, elT, avt, termCells_eq, go_sem, ↓reduceIte, reduceAdd, reduceSub, reduceMul, reduceLeDiff, reduceLT, reduceEqDiff, reduceNeg, Nat.reduceBEq]; done))) | (refine c_ctrE (ctr328) ?_ ?_; (focus (simp -implicitDefEqProofs (disch := omega) only [List.flatMap_cons, List.flatMap_nil, List.append_nil, List.length_cons, List.length_nil, rep1t, List.flatten_cons, List.flatten_nil, avs, avb, avi, avo, sigCells, opCells, pairCells, elT, avt, termCells_eq, go_sem, ↓reduceIte, reduceAdd, reduceSub, reduceMul, reduceLeDiff, reduceLT, reduceEqDiff, reduceNeg, Nat.reduceBEq]; done)))); simp -implicitDefEqProofs (disch := omega) only [List.flatMap_cons, List.flatMap_nil, List.append_nil, List.length_cons, List.length_nil, rep1t, List.flatten_cons, List.flatten_nil, go_sem, ↓reduceIte, reduceAdd, reduceSub, reduceMul, reduceLeDiff, reduceLT, reduceEqDiff, reduceNeg, Nat.reduceBEq]) | refine And.intro (by omega) ?_ | (intro hr; have hc := hr; (try simp only [zda, zdb, zdc, zdd] at hc); simp -implicitDefEqProofs (disch := omega) only [hr, List.flatMap_cons, List.flatMap_nil, List.append_nil, List.length_cons, List.length_nil, rep1t, List.flatten_cons, List.flatten_nil, go_sem, ↓reduceIte, reduceAdd, reduceSub, reduceMul, reduceLeDiff, reduceLT, reduceEqDiff, reduceNeg, Nat.reduceBEq]; (try clear hr))))
     all_goals exact fin_eq rfl rfl
end Go.Proofs.YtnjnjdebgkjfhaaGreatDoor
