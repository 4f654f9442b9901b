/-
  What functions of the chapter return, as plain functions of what they are given; no condition beyond those that each theorem names.
-/
import Derived.Test.YtnjnjdebgkjfhaaGreatDoorTeP52
set_option maxRecDepth 100000
set_option linter.unusedSimpArgs false
set_option linter.unusedVariables false
set_option maxHeartbeats 4000000
namespace Go.Proofs.YtnjnjdebgkjfhaaGreatDoor
open Go Go.Vo
open Nat (reduceAdd reduceSub reduceMul reduceLeDiff reduceLT reduceEqDiff)
open Int (reduceNeg)

def listW : List Str → Str
 | [] => []
 | a :: l => a ++ l.flatMap fun s => 44 :: 32 :: s
def pairW : List Str → List Str
 | a :: b :: l => (a ++ 32 :: 45 :: 62 :: 32 :: b) :: pairW l
 | _ => []
def oneRest (n : Nat) (u : LTerm) : Str := (if 0 < n then [32] else []) ++ 124 :: 32 :: u.text
def restW (n : Nat) (r : List LTerm) : Str := r.flatMap (oneRest n)
def boolW (b : Bool) : Str := if b = true then [116, 114, 117, 101] else [102, 97, 108, 115, 101]
mutual
def writeT : LTerm → Str
 | .mk k n x y l r =>
   if k = 1 then Lib.itoa n
   else if k = 2 then boolW (decide (n = 1))
   else if k = 3 then 34 :: (x ++ [34])
   else if k = 4 then 39 :: x
   else if k = 5 then x ++ 40 :: (listW (writeL l) ++ [41])
   else if k = 6 then x ++ (if openS x = true then [] else 58 :: y)
   else if k = 7 then 91 :: (listW (writeL l) ++ (restW l.length r ++ [93]))
   else if k = 8 then 123 :: (listW (pairW (writeL l)) ++ (restW l.length r ++ [125]))
   else []
def writeL : List LTerm → List Str
 | [] => []
 | t :: l => writeT t :: writeL l
end
theorem writeL_map : ∀ l : List LTerm, writeL l = l.map writeT
 | [] => by rw [writeL]; rfl
 | t :: l => by rw [writeL, writeL_map l]; rfl
theorem write_eq (t : LTerm) : writeT t = if t.kind = 1 then Lib.itoa t.n
   else if t.kind = 2 then boolW (decide (t.n = 1))
   else if t.kind = 3 then 34 :: (t.text ++ [34])
   else if t.kind = 4 then 39 :: t.text
   else if t.kind = 5 then t.text ++ 40 :: (listW (t.kids.map writeT) ++ [41])
   else if t.kind = 6 then t.text ++ (if openS t.text = true then [] else 58 :: t.sort)
   else if t.kind = 7 then 91 :: (listW (t.kids.map writeT) ++ (restW t.kids.length t.rest ++ [93]))
   else if t.kind = 8 then 123 :: (listW (pairW (t.kids.map writeT)) ++ (restW t.kids.length t.rest ++ [125]))
   else [] := by
 cases t; rw [writeT, writeL_map]; rfl
theorem listW_snoc {l : List Str} {s : Str} : listW (l ++ [s]) = listW l ++ ((if 0 < l.length then [44, 32] else []) ++ s) := by
 cases l with
 | nil => simp [listW]
 | cons a l => simp [listW, List.flatMap_append]
theorem take_snoc {α : Type} {l : List α} {k : Nat} {d : α} (h : k < l.length) : l.take (k + 1) = l.take k ++ [l.getD k d] := by
 rw [List.take_succ_eq_append_getElem h]; simp [List.getD, h]
theorem listW_take {l : List LTerm} {k : Nat} (h : k < l.length) : listW ((l.take (k + 1)).map writeT) = listW ((l.take k).map writeT) ++ ((if 0 < k then [44, 32] else []) ++ writeT (l.getD k default)) := by
 rw [take_snoc (d := default) h, List.map_append, List.map_cons, List.map_nil, listW_snoc, List.length_map, List.length_take, Nat.min_eq_left (by omega)]
theorem pairW_append : ∀ {l : List Str} {a b : Str}, l.length % 2 = 0 → pairW (l ++ [a, b]) = pairW l ++ [a ++ 32 :: 45 :: 62 :: 32 :: b]
 | [], a, b, _ => rfl
 | [x], a, b, h => by simp at h
 | x :: y :: l, a, b, h => by
   have h2 : l.length % 2 = 0 := by simp only [List.length_cons] at h; omega
   simp only [List.cons_append, pairW, pairW_append h2]
theorem pairW_len : ∀ {l : List Str}, l.length % 2 = 0 → (pairW l).length = l.length / 2
 | [], _ => rfl
 | [x], h => by simp at h
 | x :: y :: l, h => by
   have h2 : l.length % 2 = 0 := by simp only [List.length_cons] at h; omega
   simp only [pairW, List.length_cons, pairW_len h2]; omega
theorem pairW_take {l : List LTerm} {k : Nat} (h : 2 * k + 1 < l.length) : listW (pairW ((l.take (2 * (k + 1))).map writeT)) =
   listW (pairW ((l.take (2 * k)).map writeT)) ++ ((if 0 < k then [44, 32] else []) ++ (writeT (l.getD (2 * k) default) ++ (32 :: 45 :: 62 :: 32 :: writeT (l.getD (2 * k + 1) default)))) := by
 have e : 2 * (k + 1) = 2 * k + 1 + 1 := by omega
 have hl : ((l.take (2 * k)).map writeT).length = 2 * k := by rw [List.length_map, List.length_take, Nat.min_eq_left (by omega)]
 rw [e, take_snoc (d := default) h, take_snoc (d := default) (by omega), List.append_assoc, List.map_append, List.map_append, List.map_cons, List.map_cons, List.map_nil]
 simp only [List.map_cons, List.map_nil, List.cons_append, List.nil_append]
 rw [pairW_append (by rw [hl]; omega), listW_snoc, pairW_len (by rw [hl]; omega), hl]
 simp
theorem restW_take {n : Nat} {r : List LTerm} {k : Nat} (h : k < r.length) : restW n (r.take (k + 1)) = restW n (r.take k) ++ oneRest n (r.getD k default) := by
 rw [take_snoc (d := default) h, restW, List.flatMap_append]; simp [restW]
theorem listW_mono {l : List LTerm} {k : Nat} (h : k ≤ l.length) : (listW ((l.take k).map writeT)).length ≤ (listW (l.map writeT)).length := by
 have key : ∀ m, k + m ≤ l.length → (listW ((l.take k).map writeT)).length ≤ (listW ((l.take (k + m)).map writeT)).length := by
   intro m
   induction m with
   | zero => intro _; exact Nat.le_refl _
   | succ m ih =>
     intro hm
     have := ih (by omega)
     rw [← Nat.add_assoc, listW_take (by omega), List.length_append]
     omega
 have := key (l.length - k) (by omega)
 rwa [show k + (l.length - k) = l.length by omega, List.take_length] at this
theorem pairW_mono {l : List LTerm} {k : Nat} (he : l.length % 2 = 0) (h : 2 * k ≤ l.length) : (listW (pairW ((l.take (2 * k)).map writeT))).length ≤ (listW (pairW (l.map writeT))).length := by
 have key : ∀ m, 2 * (k + m) ≤ l.length → (listW (pairW ((l.take (2 * k)).map writeT))).length ≤ (listW (pairW ((l.take (2 * (k + m))).map writeT))).length := by
   intro m
   induction m with
   | zero => intro _; exact Nat.le_refl _
   | succ m ih =>
     intro hm
     have := ih (by omega)
     rw [← Nat.add_assoc, pairW_take (by omega), List.length_append]
     omega
 have := key (l.length / 2 - k) (by omega)
 rwa [show 2 * (k + (l.length / 2 - k)) = l.length by omega, List.take_length] at this
theorem restW_mono {n : Nat} {r : List LTerm} {k : Nat} (h : k ≤ r.length) : (restW n (r.take k)).length ≤ (restW n r).length := by
 have : restW n r = restW n (r.take k) ++ restW n (r.drop k) := by rw [restW, restW, restW, ← List.flatMap_append, List.take_append_drop]
 rw [this, List.length_append]; omega
end Go.Proofs.YtnjnjdebgkjfhaaGreatDoor
