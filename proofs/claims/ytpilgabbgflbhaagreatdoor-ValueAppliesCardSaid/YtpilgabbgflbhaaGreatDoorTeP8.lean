/-
  What functions of the chapter return, as plain functions of what they are given; no condition beyond those that each theorem names.
-/
import Derived.Test.YtpilgabbgflbhaaGreatDoorTeP6
import Derived.Test.YtpilgabbgflbhaaGreatDoorTeP7
set_option maxRecDepth 100000
set_option linter.unusedSimpArgs false
set_option linter.unusedVariables false
set_option maxHeartbeats 4000000
namespace Go.Proofs.YtpilgabbgflbhaaGreatDoor
open Go Go.Vo
open Nat (reduceAdd reduceSub reduceMul reduceLeDiff reduceLT reduceEqDiff)
open Int (reduceNeg)

structure GoodR (s : LSig) (x : Str) (l : List LTerm) (p : Res) : Prop where
 iv : innerV s x (l.getD 0 default) (l.getD 1 default) (l.getD 2 default) = p
 ref : CT 87 [.agg (sigCells s), .s x, avt l] (resV p)
section
variable {s : LSig} {a b c : LTerm}
theorem goodR_num {x : Str} (hx : x ∈ numNames) (h : Args s x [a, b]) : GoodR s x [a, b] (numV x a.n b.n) := by
 have e : ∀ y ∈ numNames, argsP y = [intS, intS] ∧ ¬ y = nneg ∧ ¬ y = neq ∧ ¬ y = nne ∧ ¬ y = nand ∧ ¬ y = nor ∧ ¬ y = nnot ∧ ¬ y = npick ∧ ¬ y = ncat ∧ ¬ y = nlength ∧ ¬ y = ntext ∧ ¬ y = njoin ∧ ¬ y = nget ∧ ¬ y = nput ∧ ¬ y = nhas ∧ ¬ y = ndel ∧ ¬ y = nkeys ∧ ¬ y = nsize ∧ ¬ y = nis ∧ ¬ y = nisvalue := by decide +kernel
 obtain ⟨eA, m0, m1, m2, m3, m4, m5, m6, m7, m8, m9, m10, m11, m12, m13, m14, m15, m16, m17, m18⟩ := e x hx
 have pa := h.pl a (by simp)
 have pb := h.pl b (by simp)
 have ia := node_int (plainV_node pa) (kind_int h.hv pa (h.at (i := 0) (by simp) (by rw [eA]; rfl)))
 have ib := node_int (plainV_node pb) (kind_int h.hv pb (h.at (i := 1) (by simp) (by rw [eA]; rfl)))
 refine ⟨?_, (ctr254num s x a b ia ib _ rfl m0 m1 m2 m3 m4 m5 m6 m7 m8 m9 m10 m11 m12 m13 m14 m15 m16 m17 m18)⟩
 show innerV s x a b _ = _
 simp only [innerV, m0, m1, m2, m3, m4, m5, m6, m7, m8, m9, m10, m11, m12, m13, m14, m15, m16, m17, m18, if_false]
theorem goodR_neg (h : Args s nneg [a]) : GoodR s nneg [a] (tInt (0 - a.n), 0) := by
 have pa := h.pl a (by simp)
 have ia := node_int (plainV_node pa) (kind_int h.hv pa (h.at (i := 0) (by simp) (by decide +kernel)))
 have i2 : isInt (0 - a.n) = true := by have := int_le ia; simp only [isInt, Bool.and_eq_true, decide_eq_true_eq]; omega
 exact ⟨(by kernel_rfl), (ctr254neg s _ a ia rfl)⟩
theorem goodR_text (h : Args s ntext [a]) : GoodR s ntext [a] (tText (Lib.itoa a.n), 0) := by
 have pa := h.pl a (by simp)
 have ia := node_int (plainV_node pa) (kind_int h.hv pa (h.at (i := 0) (by simp) (by decide +kernel)))
 have i2 := int_le ia
 have i3 := itoa_len a.n
 exact ⟨(by kernel_rfl), (ctr254text s _ a ia rfl)⟩
theorem goodR_eq (h : Args s neq [a, b]) : GoodR s neq [a, b] (tBool (decide (a = b)), 0) := by
 have oa := h.ol a (by simp)
 have ob := h.ol b (by simp)
 exact ⟨(by kernel_rfl), (ctr254eq s _ a b oa ob rfl)⟩
theorem goodR_ne (h : Args s nne [a, b]) : GoodR s nne [a, b] (tBool (!decide (a = b)), 0) := by
 have oa := h.ol a (by simp)
 have ob := h.ol b (by simp)
 exact ⟨(by kernel_rfl), (ctr254ne s _ a b oa ob rfl)⟩
theorem goodR_and (h : Args s nand [a, b]) : GoodR s nand [a, b] (tBool (decide (a.n = 1) && decide (b.n = 1)), 0) :=
 ⟨(by kernel_rfl), (ctr254and s _ a b rfl)⟩
theorem goodR_or (h : Args s nor [a, b]) : GoodR s nor [a, b] (tBool (decide (a.n = 1) || decide (b.n = 1)), 0) :=
 ⟨(by kernel_rfl), (ctr254or s _ a b rfl)⟩
theorem goodR_not (h : Args s nnot [a]) : GoodR s nnot [a] (tBool (decide (a.n = 0)), 0) :=
 ⟨(by kernel_rfl), (ctr254not s _ a rfl)⟩
theorem goodR_pick (h : Args s npick [a, b, c]) : GoodR s npick [a, b, c] (if a.n = 0 then (c, 0) else (b, 0)) := by
 have pa := h.pl a (by simp)
 have k := node_bool (plainV_node pa) (kind_bool h.hv pa (h.at (i := 0) (by simp) (by decide +kernel)))
 by_cases h0 : a.n = 0
 · have e : (if a.n = 0 then (c, (0 : Int)) else (b, 0)) = (c, 0) := if_pos h0
   have iv : innerV s npick a b c = (if a.n = 0 then (c, (0 : Int)) else (b, 0)) := by kernel_rfl
   rw [e] at iv ⊢
   exact ⟨iv, (ctr254pick0 s _ a b c h0 rfl)⟩
 · have e : (if a.n = 0 then (c, (0 : Int)) else (b, 0)) = (b, 0) := if_neg h0
   have iv : innerV s npick a b c = (if a.n = 0 then (c, (0 : Int)) else (b, 0)) := by kernel_rfl
   have h1 : a.n = 1 := k.resolve_left h0
   rw [e] at iv ⊢
   exact ⟨iv, (ctr254pick1 s _ a b c h1 rfl)⟩
theorem goodR_cat (h : Args s ncat [a, b]) : GoodR s ncat [a, b] (if isText (a.text ++ b.text) = true then (tText (a.text ++ b.text), 0) else (tZ, 20)) := by
 have pa := h.pl a (by simp)
 have pb := h.pl b (by simp)
 have ta := node_text (plainV_node pa) (kind_text h.hv pa (h.at (i := 0) (by simp) (by decide +kernel)))
 have tb := node_text (plainV_node pb) (kind_text h.hv pb (h.at (i := 1) (by simp) (by decide +kernel)))
 refine ⟨(by kernel_rfl), (ctr254cat s _ a b ta tb rfl)⟩
theorem goodR_length (h : Args s nlength [a]) : GoodR s nlength [a] (tInt a.kids.length, 0) := by
 have pa := h.pl a (by simp)
 have oa := h.ol a (by simp)
 have k := kids_len (plainV_V pa)
 exact ⟨(by kernel_rfl), (ctr254length s _ a oa rfl)⟩
theorem goodR_join (h : Args s njoin [a, b]) : GoodR s njoin [a, b] (.mk 7 0 [] [] (a.kids ++ b.kids) [], 0) := by
 have pa := h.pl a (by simp)
 have oa := h.ol a (by simp)
 have ka := kids_len (plainV_V pa)
 have pb := h.pl b (by simp)
 have ob := h.ol b (by simp)
 have kb := kids_len (plainV_V pb)
 refine ⟨(by kernel_rfl), (ctr254join s _ a b ka kb rfl)⟩
theorem goodR_is (h : Args s nis [a, b]) : GoodR s nis [a, b] (if existsA s b.text = true then (tBool (atMost s (sortP s a) b.text), 0) else (tZ, 13)) := by
 have pa := h.pl a (by simp)
 have r := ctr254is_y s nis a b h.hm h.hs h.hv pa rfl
 rw [exists_eq2] at r
 refine ⟨(by kernel_rfl), r⟩
theorem goodR_isvalue (h : Args s nisvalue [a]) : GoodR s nisvalue [a] (tBool (isValue s (sortP s a)), 0) :=
 ⟨(by kernel_rfl), (ctr254isvalue s _ a h.hm h.hs h.hv (h.pl a (by simp)) rfl)⟩
theorem map254 {x : Str} {l : List LTerm} {p : Res} (hor : x = nget ∨ x = nput ∨ x = nhas ∨ x = ndel ∨ x = nkeys ∨ x = nsize) (c : CT 136 [.s x, avt l] (resV p)) : CT 87 [.agg (sigCells s), .s x, avt l] (resV p) := by
 have e : ∀ y ∈ [nget, nput, nhas, ndel, nkeys, nsize], ¬ y = nneg ∧ ¬ y = neq ∧ ¬ y = nne ∧ ¬ y = nand ∧ ¬ y = nor ∧ ¬ y = nnot ∧ ¬ y = npick ∧ ¬ y = ncat ∧ ¬ y = nlength ∧ ¬ y = ntext ∧ ¬ y = njoin := by decide +kernel
 obtain ⟨m0, m1, m2, m3, m4, m5, m6, m7, m8, m9, m10⟩ := e x (by simpa using hor)
 exact ctr254map s x l p c m0 m1 m2 m3 m4 m5 m6 m7 m8 m9 m10 hor
theorem goodR_size (h : Args s nsize [a]) : GoodR s nsize [a] (tInt (entsOf a.kids).length, 0) := by
 obtain ⟨es, h1, h2, h3, h4, h5, h6, h7⟩ := h.map (by decide +kernel)
 have oa := h.ol a (by simp)
 have iv : innerV s nsize a default default = (tInt (entsOf a.kids).length, 0) := by kernel_rfl
 rw [h7] at iv ⊢
 exact ⟨iv, (map254 (by simp) (ctr276size _ a es h1 oa rfl))⟩
theorem goodR_keys (h : Args s nkeys [a]) : GoodR s nkeys [a] (.mk 7 0 [] [] ((entsOf a.kids).map (·.1)) [], 0) := by
 obtain ⟨es, h1, h2, h3, h4, h5, h6, h7⟩ := h.map (by decide +kernel)
 have oa := h.ol a (by simp)
 have iv : innerV s nkeys a default default = (.mk 7 0 [] [] ((entsOf a.kids).map (·.1)) [], 0) := by kernel_rfl
 rw [h7] at iv ⊢
 refine ⟨iv, (map254 (by simp) (ctr276keys _ a es h1 oa rfl))⟩
theorem goodR_has (h : Args s nhas [a, b]) : GoodR s nhas [a, b] (tBool (hasK b (entsOf a.kids)), 0) := by
 obtain ⟨es, h1, h2, h3, h4, h5, h6, h7⟩ := h.map (by decide +kernel)
 have oa := h.ol a (by simp)
 have ob := h.ol b (by simp)
 have iv : innerV s nhas a b default = (tBool (hasK b (entsOf a.kids)), 0) := by kernel_rfl
 rw [h7] at iv ⊢
 refine ⟨iv, (map254 (by simp) ?_)⟩
 rcases bool_em (hasK b es) with hh | hh
 · rw [hh]; exact ctr276has_y _ a b es h1 oa ob h2 hh rfl
 · rw [hh]; exact ctr276has_n _ a b es h1 oa ob h2 hh rfl
theorem goodR_get (h : Args s nget [a, b]) : GoodR s nget [a, b] (if hasK b (entsOf a.kids) = true then (((entsOf a.kids).getD (posK b (entsOf a.kids)) default).2, 0) else (tZ, 4)) := by
 obtain ⟨es, h1, h2, h3, h4, h5, h6, h7⟩ := h.map (by decide +kernel)
 have oa := h.ol a (by simp)
 have ob := h.ol b (by simp)
 have iv : innerV s nget a b default = (if hasK b (entsOf a.kids) = true then (((entsOf a.kids).getD (posK b (entsOf a.kids)) default).2, 0) else (tZ, 4)) := by kernel_rfl
 rw [h7] at iv ⊢
 rcases bool_em (hasK b es) with hh | hh
 · rw [if_pos hh] at iv ⊢
   have hm : es.getD (posK b es) default ∈ es := mem_getD (pos_has hh).1
   exact ⟨iv, (map254 (by simp) (ctr276get_y _ a b es h1 oa ob h2 hh rfl))⟩
 · rw [if_neg (by rw [hh]; simp)] at iv ⊢
   exact ⟨iv, (map254 (by simp) (ctr276get_n _ a b es h1 oa ob h2 hh rfl))⟩
theorem goodR_del (h : Args s ndel [a, b]) : GoodR s ndel [a, b] (mapT (delE b (entsOf a.kids)), 0) := by
 obtain ⟨es, h1, h2, h3, h4, h5, h6, h7⟩ := h.map (by decide +kernel)
 have oa := h.ol a (by simp)
 have ob := h.ol b (by simp)
 have iv : innerV s ndel a b default = (mapT (delE b (entsOf a.kids)), 0) := by kernel_rfl
 rw [h7] at iv ⊢
 have ok : InnerOk s (mapT (delE b es), 0) := ok_kid (okT_mapT (fun e he => h5 e (del_mem he)) (by have := del_len (k := b) (es := es); omega)) (plain_mapT (fun e he => h6 e (del_mem he)) (del_sorted h2) (del_keys h3))
 rcases bool_em (hasK b es) with hh | hh
 · rw [delE, if_pos hh] at iv ok ⊢
   exact ⟨iv, (map254 (by simp) (ctr276del_y _ a b es h1 oa ob h2 h4 hh rfl))⟩
 · rw [delE, if_neg (by rw [hh]; simp)] at iv ok ⊢
   exact ⟨iv, (map254 (by simp) (ctr276del_n _ a b es h1 oa ob h2 h4 hh rfl))⟩
theorem goodR_put (h : Args s nput [a, b, c]) : GoodR s nput [a, b, c] (if isKey b = true then (mapT (putE b c (entsOf a.kids)), 0) else (tZ, 15)) := by
 obtain ⟨es, h1, h2, h3, h4, h5, h6, h7⟩ := h.map (by decide +kernel)
 have oa := h.ol a (by simp)
 have ob := h.ol b (by simp)
 have oc := h.ol c (by simp)
 have pa := h.pl a (by simp)
 have pb := h.pl b (by simp)
 have pc := h.pl c (by simp)
 have iv : innerV s nput a b c = (if isKey b = true then (mapT (putE b c (entsOf a.kids)), 0) else (tZ, 15)) := by kernel_rfl
 rw [h7] at iv ⊢
 rcases bool_em (isKey b) with hk | hk
 · rw [if_pos hk] at iv ⊢
   have j5 : ∀ e ∈ putE b c es, OkT e.1 ∧ OkT e.2 := fun e he => by
     rcases put_mem he with rfl | he
     · exact ⟨ob, oc⟩
     · exact h5 e he
   have j6 : ∀ e ∈ putE b c es, plainP s e.1 = true ∧ plainP s e.2 = true := fun e he => by
     rcases put_mem he with rfl | he
     · exact ⟨plainV_P pb, plainV_P pc⟩
     · exact h6 e he
   have ok : InnerOk s (mapT (putE b c es), 0) := ok_kid (okT_mapT j5 (by have := put_len (k := b) (v := c) (es := es); omega)) (plain_mapT j6 (put_sorted h2) (put_keys hk h3))
   have hz : ∀ e ∈ es, ordR e.1 b = ordP e.1 b := fun e he => by
     have w := wfT_eq.1 (valid_wf (plainV_V pa))
     exact ord_eq _ (wf_zt _ (w.2 _ (by rw [h1]; exact flat_mem.2 ⟨e, he, .inl rfl⟩))) _ (wf_zt _ (valid_wf (plainV_V pb)))
   have r := ctr276put_y nput a b c es h1 oa ob h2 h4 hk rfl
   rw [lay_put h2 hz] at r
   refine ⟨iv, (map254 (by simp) r)⟩
 · rw [if_neg (by rw [hk]; simp)] at iv ⊢
   exact ⟨iv, (map254 (by simp) (ctr276put_k _ a b c es h1 oa ob h2 h4 hk rfl))⟩
end
theorem goodR {s : LSig} {x : Str} {l : List LTerm} (hb : builtIns.contains x = true) (hn : l.length = (argsP x).length) (h : Args s x l) : ∃ p, GoodR s x l p := by
 have e : ∀ y ∈ builtIns, ((argsP y).length = 1 ∧ (y = nneg ∨ y = ntext ∨ y = nnot ∨ y = nlength ∨ y = nsize ∨ y = nkeys ∨ y = nisvalue)) ∨ ((argsP y).length = 2 ∧ (y ∈ numNames ∨ y = neq ∨ y = nne ∨ y = nand ∨ y = nor ∨ y = ncat ∨ y = njoin ∨ y = nhas ∨ y = nget ∨ y = ndel ∨ y = nis)) ∨ ((argsP y).length = 3 ∧ (y = npick ∨ y = nput)) := by decide +kernel
 rcases e x (by simpa using hb) with ⟨e, hx⟩ | ⟨e, hx⟩ | ⟨e, hx⟩
 · obtain ⟨a, rfl⟩ := len1 (hn.trans e)
   rcases hx with rfl | rfl | rfl | rfl | rfl | rfl | rfl
   all_goals first | exact ⟨_, goodR_neg h⟩ | exact ⟨_, goodR_text h⟩ | exact ⟨_, goodR_not h⟩ | exact ⟨_, goodR_length h⟩ | exact ⟨_, goodR_size h⟩ | exact ⟨_, goodR_keys h⟩ | exact ⟨_, goodR_isvalue h⟩
 · obtain ⟨a, b, rfl⟩ := len2 (hn.trans e)
   rcases hx with hx | rfl | rfl | rfl | rfl | rfl | rfl | rfl | rfl | rfl | rfl
   all_goals first | exact ⟨_, goodR_num hx h⟩ | exact ⟨_, goodR_eq h⟩ | exact ⟨_, goodR_ne h⟩ | exact ⟨_, goodR_and h⟩ | exact ⟨_, goodR_or h⟩ | exact ⟨_, goodR_cat h⟩ | exact ⟨_, goodR_join h⟩ | exact ⟨_, goodR_has h⟩ | exact ⟨_, goodR_get h⟩ | exact ⟨_, goodR_del h⟩ | exact ⟨_, goodR_is h⟩
 · obtain ⟨a, b, c, rfl⟩ := len3 (hn.trans e)
   rcases hx with rfl | rfl
   all_goals first | exact ⟨_, goodR_pick h⟩ | exact ⟨_, goodR_put h⟩

theorem ctr235V (s : LSig) (x : Str) (l : List LTerm) (hm : Small s) (hs : OkS s) (hv : validB s = true) (hp : plainA s l = true) (hl : l.length ≤ 1466015503701) (ol : ∀ t ∈ l, OkT t) : CT 42 [.agg (sigCells s), .s x, avt l] (resV (calcV s x l)) := by
 rcases bool_em (builtIns.contains x) with hb | hb
 · by_cases hn : l.length = (argsP x).length
   · have g := fun hf => good hb hn (calc_args hm hs hv hp ol hf)
     refine ctr235 s x l (innerV s x (l.getD 0 default) (l.getD 1 default) (l.getD 2 default)) hm hs hv (fun t ht => List.all_eq_true.1 hp t ht) hl hb hn (fun hf => ?_) (fun hf => ?_) _ ?_
     · obtain ⟨p, g⟩ := goodR hb hn (calc_args hm hs hv hp ol hf); rw [g.iv]; exact g.ref
     · obtain ⟨p, g⟩ := g hf; rw [g.iv]; exact g.ok.ok
     · rw [calcV, if_pos hb, if_pos hn]
       split
       · obtain ⟨p, g⟩ := g ‹_›; rw [g.iv, lim_eq g.ok]
       · rfl
   · rw [calcV, if_pos hb, if_neg hn]; exact ctr235_l s x l hl hb hn
 · rw [calcV, if_neg (by rw [hb]; simp)]; exact ctr235_n s x l hb
theorem ctr210V (s : LSig) (x : Str) (l : List LTerm) (hm : Small s) (hs : OkS s) (hl : l.length ≤ 1466015503701) (ol : ∀ t ∈ l, OkT t) : CT 13 [.agg (sigCells s), .s x, avt l] (resV (applyV s x l)) := by
 rcases bool_em (validB s) with hv | hv
 · refine ctr210 s x l (calcV s x l) hm hs hv hl ol (fun hp => ctr235V s x l hm hs hv hp hl ol) _ ?_
   rw [applyV, if_pos hv]
 · rw [applyV, if_neg (by rw [hv]; simp)]; exact ctr210_n s x l hm hs hv

theorem fewV_small {s : LSig} {l : List LTerm} (h : fewV s l = true) : Small s := by
 simp only [fewV, Bool.and_eq_true] at h
 exact few_small h.1.1
theorem ctr200 (s : LSig) (x : Str) (l : List LTerm) (hs : OkS s) (hl : l.length ≤ 1466015503701) (ol : ∀ t ∈ l, OkT t): CT 3 [.agg (sigCells s), .s x, avt l] (.b true) := by
 refine sem_introA mixed Tryz.func3 g0 ?_
 · simp -implicitDefEqProofs (disch := omega) only [Tryz.f3, go_sem, List.replicate, simprocAttr, avt]
   rcases bool_em (fewV s l) with hf | hf
   · have hm := fewV_small hf
     have c1 := ctr209V s x l hm hs hl ol
     have c2 := ctr210V s x l hm hs hl ol
     have o := (apply_ok hm hs ol (x := x)).inn.ok
     generalize applyV s x l = p at c1 c2 o
     (repeat' (first | refine gT ?_ ?_ | refine gF ?_ ?_ | refine gC ?_ ?_ | ((first | (refine c_ctrE (ctr207 s l hs hl ol) ?_ ?_; (focus (simp -implicitDefEqProofs (disch := omega) only [hf, eq_self, decide_true, avs, avb, avi, avo, sigCells, opCells, pairCells, elT, avt, termCells_eq, go_sem, simprocAttr]; done))) | (refine c_ctrE (c1) ?_ ?_; (focus (simp -implicitDefEqProofs (disch := omega) only [hf, eq_self, decide_true, avs, avb, avi, avo, sigCells, opCells, pairCells, elT, avt, termCells_eq, go_sem, simprocAttr]; done))) | (refine c_ctrE (c2) ?_ ?_; (focus (simp -implicitDefEqProofs (disch := omega) only [hf, eq_self, decide_true, avs, avb, avi, avo, sigCells, opCells, pairCells, elT, avt, termCells_eq, go_sem, simprocAttr]; done))) | (refine c_ctrE (ctr211 p.1 p.1 o o) ?_ ?_; (focus (simp -implicitDefEqProofs (disch := omega) only [hf, eq_self, decide_true, avs, avb, avi, avo, sigCells, opCells, pairCells, elT, avt, termCells_eq, go_sem, simprocAttr]; done))) | (refine c_ctrE (ctr208) ?_ ?_; (focus (simp -implicitDefEqProofs (disch := omega) only [hf, eq_self, decide_true, avs, avb, avi, avo, sigCells, opCells, pairCells, elT, avt, termCells_eq, go_sem, simprocAttr]; done)))); simp -implicitDefEqProofs (disch := omega) only [hf, eq_self, decide_true, go_sem, simprocAttr]) | refine And.intro (by omega) ?_ | (intro hr; have hc := hr; (try simp only [zda, zdb, zdc, zdd] at hc); simp -implicitDefEqProofs (disch := omega) only [hr, hf, eq_self, decide_true, go_sem, simprocAttr]; (try clear hr))))
     exact fin_eq rfl rfl
   · (repeat' (first | refine gT ?_ ?_ | refine gF ?_ ?_ | refine gC ?_ ?_ | ((first | (refine c_ctrE (ctr207 s l hs hl ol) ?_ ?_; (focus (simp -implicitDefEqProofs (disch := omega) only [hf, avs, avb, avi, avo, sigCells, opCells, pairCells, elT, avt, termCells_eq, go_sem, simprocAttr]; done))) | (refine c_ctrE (ctr208) ?_ ?_; (focus (simp -implicitDefEqProofs (disch := omega) only [hf, avs, avb, avi, avo, sigCells, opCells, pairCells, elT, avt, termCells_eq, go_sem, simprocAttr]; done)))); simp -implicitDefEqProofs (disch := omega) only [hf, go_sem, simprocAttr]) | refine And.intro (by omega) ?_ | (intro hr; have hc := hr; (try simp only [zda, zdb, zdc, zdd] at hc); simp -implicitDefEqProofs (disch := omega) only [hr, hf, go_sem, simprocAttr]; (try clear hr))))
     exact fin_eq rfl rfl
end Go.Proofs.YtpilgabbgflbhaaGreatDoor
