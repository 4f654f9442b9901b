/-
  Contracts of the library (sorting, fields, a byte in a string) at this program: laid by the kit's tool; no condition.
-/
import Derived.Shelf.Small.Strs
import Derived.Shelf.Strconv.Itoa3
import Derived.Shelf.Strings.Builder1
import Derived.Shelf.Strings.Fields
import Derived.Test.YtifefbhllfdmlaaGreatDoorProg
import Derived.Test.YtifefbhllfdmlaaGreatDoorSoP62
import Derived.Sort.Walk0
set_option linter.unusedVariables false
set_option maxRecDepth 100000
set_option linter.unusedSimpArgs false
set_option maxHeartbeats 4000000
namespace Go.Proofs
open Go.Shelf
def Tryz.lays169_ren : Go.Shelf.Ren := ⟨fun | 169 => 220 | n => n, fun | 70 => 230 | 9 => 9 | 0 => 0 | 72 => 233 | 37 => 231 | 127 => 264 | 3 => 3 | 5 => 5 | n => n, fun | n => n⟩
theorem Tryz.lays169 : Go.Proofs.Lays.n169 Tryz.prog Tryz.lays169_ren := {
 mixed := by kernel_rfl
 f169 := Tryz.func220.trans (congrArg some (by kernel_rfl))
 t0 := Tryz.underlying0
 a0 := Tryz.isAgg0
 z0 := Tryz.sizeOf0
 v0 := Tryz.zeroValue0
 t3 := Tryz.underlying3
 a3 := Tryz.isAgg3
 z3 := Tryz.sizeOf3
 v3 := Tryz.zeroValue3
 t9 := Tryz.underlying9
 a9 := Tryz.isAgg9
 z9 := Tryz.sizeOf9
 v9 := Tryz.zeroValue9
 t37 := Tryz.underlying231
 a37 := Tryz.isAgg231
 z37 := Tryz.sizeOf231
 v37 := Tryz.zeroValue231
 t70 := Tryz.underlying230
 a70 := Tryz.isAgg230
 z70 := Tryz.sizeOf230
 v70 := Tryz.zeroValue230
 t72 := Tryz.underlying233
 a72 := Tryz.isAgg233
 z72 := Tryz.sizeOf233
 v72 := Tryz.zeroValue233
 t127 := Tryz.underlying264
 a127 := Tryz.isAgg264
 z127 := Tryz.sizeOf264
 v127 := Tryz.zeroValue264 }
theorem Tryz.Builder_Extra_169 : Builder.Extra Tryz.prog Tryz.lays169_ren := {
 sizeBuilder := by kernel_rfl
 liesBuilder := by kernel_rfl
 t5 := Tryz.underlying5
 a5 := Tryz.isAgg5
 z5 := Tryz.sizeOf5
 v5 := Tryz.zeroValue5
 infoByte := by kernel_rfl
 cellsByte := by kernel_rfl
 sizeByte := by kernel_rfl
 neB5 := by decide }
def Tryz.lays137_ren : Go.Shelf.Ren := ⟨fun | 137 => 232 | 217 => 257 | 266 => 270 | n => n, fun | 9 => 9 | 5 => 5 | 3 => 3 | n => n, fun | n => n⟩
theorem Tryz.lays137 : Go.Proofs.Lays.n137 Tryz.prog Tryz.lays137_ren := {
 mixed := by kernel_rfl
 f137 := Tryz.func232.trans (congrArg some (by kernel_rfl))
 f217 := Tryz.func257.trans (congrArg some (by kernel_rfl))
 f266 := Tryz.func270.trans (congrArg some (by kernel_rfl))
 t3 := Tryz.underlying3
 a3 := Tryz.isAgg3
 z3 := Tryz.sizeOf3
 v3 := Tryz.zeroValue3
 t5 := Tryz.underlying5
 a5 := Tryz.isAgg5
 z5 := Tryz.sizeOf5
 v5 := Tryz.zeroValue5
 t9 := Tryz.underlying9
 a9 := Tryz.isAgg9
 z9 := Tryz.sizeOf9
 v9 := Tryz.zeroValue9 }
open Go.RowKit in
theorem Tryz.strings_IndexByte (s : ByteArray) (c : Int) (w : World) :
   Calls Tryz.prog 232 #[.string s, .int .u8 c] w fun e w' => e = .returned (.int .i64 (Lib.indexByte s.data.toList c.toNat.toUInt8)) ∧ w' = w := Any.strings_IndexByte Tryz.lays137 s c w
def Tryz.laysM171_ren : Go.Shelf.Ren := ⟨fun | 171 => 178 | 243 => 218 | 246 => 244 | 283 => 262 | 284 => 263 | 285 => 264 | 286 => 265 | 129 => 272 | 317 => 271 | 318 => 273 | 319 => 274 | 320 => 275 | 337 => 277 | 338 => 278 | n => n, fun | 3 => 3 | 9 => 9 | 2 => 2 | 4 => 4 | 171 => 277 | 0 => 0 | 53 => 278 | 37 => 231 | 5 => 5 | 173 => 281 | 212 => 296 | 51 => 273 | 20 => 20 | 213 => 297 | 46 => 298 | 232 => 305 | 233 => 306 | n => n, fun | 17 => 2 | 18 => 4 | 19 => 5 | n => n⟩
theorem Tryz.laysM171 : Go.Proofs.LaysM.n171 Tryz.prog Tryz.laysM171_ren := {
 mixed := by kernel_rfl
 f129 := Tryz.func272.trans (congrArg some (by kernel_rfl))
 f171 := Tryz.func178.trans (congrArg some (by kernel_rfl))
 f243 := Tryz.func218.trans (congrArg some (by kernel_rfl))
 f246 := Tryz.func244.trans (congrArg some (by kernel_rfl))
 f283 := Tryz.func262.trans (congrArg some (by kernel_rfl))
 f284 := Tryz.func263.trans (congrArg some (by kernel_rfl))
 f285 := Tryz.func264.trans (congrArg some (by kernel_rfl))
 f286 := Tryz.func265.trans (congrArg some (by kernel_rfl))
 f317 := Tryz.func271.trans (congrArg some (by kernel_rfl))
 f318 := Tryz.func273.trans (congrArg some (by kernel_rfl))
 f319 := Tryz.func274.trans (congrArg some (by kernel_rfl))
 f320 := Tryz.func275.trans (congrArg some (by kernel_rfl))
 f337 := Tryz.func277.trans (congrArg some (by kernel_rfl))
 f338 := Tryz.func278.trans (congrArg some (by kernel_rfl))
 t0 := Tryz.underlying0
 a0 := Tryz.isAgg0
 z0 := Tryz.sizeOf0
 v0 := Tryz.zeroValue0
 t2 := Tryz.underlying2
 a2 := Tryz.isAgg2
 z2 := Tryz.sizeOf2
 v2 := Tryz.zeroValue2
 t3 := Tryz.underlying3
 a3 := Tryz.isAgg3
 z3 := Tryz.sizeOf3
 v3 := Tryz.zeroValue3
 t4 := Tryz.underlying4
 a4 := Tryz.isAgg4
 z4 := Tryz.sizeOf4
 v4 := Tryz.zeroValue4
 t5 := Tryz.underlying5
 a5 := Tryz.isAgg5
 z5 := Tryz.sizeOf5
 v5 := Tryz.zeroValue5
 t9 := Tryz.underlying9
 a9 := Tryz.isAgg9
 z9 := Tryz.sizeOf9
 v9 := Tryz.zeroValue9
 t20 := Tryz.underlying20
 a20 := Tryz.isAgg20
 z20 := Tryz.sizeOf20
 v20 := Tryz.zeroValue20
 t37 := Tryz.underlying231
 a37 := Tryz.isAgg231
 z37 := Tryz.sizeOf231
 v37 := Tryz.zeroValue231
 t46 := Tryz.underlying298
 a46 := Tryz.isAgg298
 z46 := Tryz.sizeOf298
 v46 := Tryz.zeroValue298
 t51 := Tryz.underlying273
 a51 := Tryz.isAgg273
 z51 := Tryz.sizeOf273
 v51 := Tryz.zeroValue273
 t53 := Tryz.underlying278
 a53 := Tryz.isAgg278
 z53 := Tryz.sizeOf278
 v53 := Tryz.zeroValue278
 t171 := Tryz.underlying277
 a171 := Tryz.isAgg277
 z171 := Tryz.sizeOf277
 v171 := Tryz.zeroValue277
 t173 := Tryz.underlying281
 a173 := Tryz.isAgg281
 z173 := Tryz.sizeOf281
 v173 := Tryz.zeroValue281
 t212 := Tryz.underlying296
 a212 := Tryz.isAgg296
 z212 := Tryz.sizeOf296
 v212 := Tryz.zeroValue296
 t213 := Tryz.underlying297
 a213 := Tryz.isAgg297
 z213 := Tryz.sizeOf297
 t232 := Tryz.underlying305
 a232 := Tryz.isAgg305
 z232 := Tryz.sizeOf305
 v232 := Tryz.zeroValue305
 t233 := Tryz.underlying306
 a233 := Tryz.isAgg306
 z233 := Tryz.sizeOf306
 v233 := Tryz.zeroValue306
 g17 := by kernel_rfl
 g18 := by kernel_rfl
 g19 := by kernel_rfl
 i0 := by kernel_rfl
 i2 := by kernel_rfl
 i3 := by kernel_rfl
 i4 := by kernel_rfl
 i5 := by kernel_rfl
 i9 := by kernel_rfl
 i20 := by kernel_rfl
 i37 := by kernel_rfl
 i46 := by kernel_rfl
 i51 := by kernel_rfl
 i53 := by kernel_rfl
 i171 := by kernel_rfl
 i173 := by kernel_rfl
 i212 := by kernel_rfl
 i232 := by kernel_rfl
 i233 := by kernel_rfl
 m17 := by kernel_rfl
 m18 := by kernel_rfl
 m19 := by kernel_rfl }
open Go.RowKit Go.Sort Go.Lib in
theorem Tryz.strconv_Itoa (n : Int) (h0 : -9223372036854775808 ≤ n) (h1 : n ≤ 9223372036854775807) (w : World) (htab : Lib.TabIs Tryz.prog w "internal/strconv.uint64pow10" .u64 Lib.pow10Tab) :
   Calls Tryz.prog 178 #[.int .i64 n] w fun e w' => e = .returned (.string ⟨(Lib.itoa n).toArray⟩) ∧ ∃ k os, w' = grow (w.drewN k) os := Any.strconv_Itoa Tryz.laysM171 n h0 h1 w htab
def Tryz.lays157_ren : Go.Shelf.Ren := ⟨fun | 157 => 196 | 229 => 230 | 199 => 231 | 261 => 256 | 311 => 268 | 312 => 269 | n => n, fun | 9 => 9 | 31 => 22 | 3 => 3 | 5 => 5 | 4 => 4 | 119 => 249 | 0 => 0 | 40 => 251 | 152 => 270 | 21 => 21 | 154 => 272 | 51 => 273 | 141 => 275 | 196 => 286 | 193 => 283 | 198 => 289 | 49 => 287 | 194 => 284 | 201 => 292 | 226 => 302 | 46 => 298 | 227 => 303 | n => n, fun | 0 => 0 | 6 => 1 | n => n⟩
theorem Tryz.lays157 : Go.Proofs.Lays.n157 Tryz.prog Tryz.lays157_ren := {
 mixed := by kernel_rfl
 f157 := Tryz.func196.trans (congrArg some (by kernel_rfl))
 f199 := Tryz.func231.trans (congrArg some (by kernel_rfl))
 f229 := Tryz.func230.trans (congrArg some (by kernel_rfl))
 f261 := Tryz.func256.trans (congrArg some (by kernel_rfl))
 f311 := Tryz.func268.trans (congrArg some (by kernel_rfl))
 f312 := Tryz.func269.trans (congrArg some (by kernel_rfl))
 t0 := Tryz.underlying0
 a0 := Tryz.isAgg0
 z0 := Tryz.sizeOf0
 v0 := Tryz.zeroValue0
 t3 := Tryz.underlying3
 a3 := Tryz.isAgg3
 z3 := Tryz.sizeOf3
 v3 := Tryz.zeroValue3
 t4 := Tryz.underlying4
 a4 := Tryz.isAgg4
 z4 := Tryz.sizeOf4
 v4 := Tryz.zeroValue4
 t5 := Tryz.underlying5
 a5 := Tryz.isAgg5
 z5 := Tryz.sizeOf5
 v5 := Tryz.zeroValue5
 t9 := Tryz.underlying9
 a9 := Tryz.isAgg9
 z9 := Tryz.sizeOf9
 v9 := Tryz.zeroValue9
 t21 := Tryz.underlying21
 a21 := Tryz.isAgg21
 z21 := Tryz.sizeOf21
 v21 := Tryz.zeroValue21
 t31 := Tryz.underlying22
 a31 := Tryz.isAgg22
 z31 := Tryz.sizeOf22
 v31 := Tryz.zeroValue22
 t40 := Tryz.underlying251
 a40 := Tryz.isAgg251
 z40 := Tryz.sizeOf251
 v40 := Tryz.zeroValue251
 t46 := Tryz.underlying298
 a46 := Tryz.isAgg298
 z46 := Tryz.sizeOf298
 v46 := Tryz.zeroValue298
 t49 := Tryz.underlying287
 a49 := Tryz.isAgg287
 z49 := Tryz.sizeOf287
 v49 := Tryz.zeroValue287
 t51 := Tryz.underlying273
 a51 := Tryz.isAgg273
 z51 := Tryz.sizeOf273
 v51 := Tryz.zeroValue273
 t119 := Tryz.underlying249
 a119 := Tryz.isAgg249
 z119 := Tryz.sizeOf249
 t141 := Tryz.underlying275
 a141 := Tryz.isAgg275
 z141 := Tryz.sizeOf275
 v141 := Tryz.zeroValue275
 t152 := Tryz.underlying270
 a152 := Tryz.isAgg270
 z152 := Tryz.sizeOf270
 v152 := Tryz.zeroValue270
 t154 := Tryz.underlying272
 a154 := Tryz.isAgg272
 z154 := Tryz.sizeOf272
 v154 := Tryz.zeroValue272
 t193 := Tryz.underlying283
 a193 := Tryz.isAgg283
 z193 := Tryz.sizeOf283
 v193 := Tryz.zeroValue283
 t194 := Tryz.underlying284
 a194 := Tryz.isAgg284
 z194 := Tryz.sizeOf284
 v194 := Tryz.zeroValue284
 t196 := Tryz.underlying286
 a196 := Tryz.isAgg286
 z196 := Tryz.sizeOf286
 v196 := Tryz.zeroValue286
 t198 := Tryz.underlying289
 a198 := Tryz.isAgg289
 z198 := Tryz.sizeOf289
 v198 := Tryz.zeroValue289
 t201 := Tryz.underlying292
 a201 := Tryz.isAgg292
 z201 := Tryz.sizeOf292
 v201 := Tryz.zeroValue292
 t226 := Tryz.underlying302
 a226 := Tryz.isAgg302
 z226 := Tryz.sizeOf302
 v226 := Tryz.zeroValue302
 t227 := Tryz.underlying303
 a227 := Tryz.isAgg303
 z227 := Tryz.sizeOf303
 v227 := Tryz.zeroValue303
 g0 := by kernel_rfl
 g6 := by kernel_rfl }
end Go.Proofs
namespace Go.Proofs.YtifefbhllfdmlaaGreatDoor
open Go Go.Vo
open Nat (reduceAdd reduceSub reduceMul reduceLeDiff reduceLT reduceEqDiff)
open Int (reduceNeg)

theorem bFn (l : List LOp) (hl : l.length ≤ 1172812402961): CT 87 [avo l] (.own 1 ((l.map LOp.name).map .s) l.length) := by
 refine aF mixed Tryz.func87 g0 ?_
 · skip
   refine bP (fun (s : Nat × AV × List AObj) => [.k, .k, .k, .v (s.2.1), .k, .j, .k, .k, .v (.i .i64 (s.1 : Nat)), .j, .j, .j, .j, .j, .j, .j, .j, .j, .k]) (fun s => s.2.2) (fun s => s.1 ≤ l.length ∧ eP 1 0 s.2.2 s.2.1 (((l.take s.1).map LOp.name).map .s) s.1) (fun s => l.length - s.1) ((0, .e0, [])) ⟨aG _, kY⟩ rfl (by simp [eN]) ?_
   rintro ⟨k, out, g⟩ j ⟨hk, ho⟩
   dsimp only at hk ho
   refine zg ?_
   (refine zs0 ?_; repeat' first | exact trivial | refine zJ ?_ ?_ | refine zH fun hc => ?_)
   · refine eV (pre := []) (news := [.s (l.getD k default).name]) (m := 1) ho rfl rfl bAs zo9 sz9 by9 rfl (by decide) (by simp -implicitDefEqProofs (disch := omega) only [go_sem, simprocAttr]) (by simp -implicitDefEqProofs (disch := omega) only [go_sem, simprocAttr]) ⟨by omega, by omega⟩ ?_
     intro out' g' ho' _
     refine zg ?_
     refine ⟨(k + 1, out', g'), ⟨by omega, ?_⟩, by simp; omega, rfl, by simp⟩
     rw [eU (d := default) (by omega), aT, aT]
     exact ho'
   · have h1 : k = l.length := by omega
     subst h1
     exact uR (pre := []) (by simpa using ho) iO
end Go.Proofs.YtifefbhllfdmlaaGreatDoor
namespace Go.Proofs.YtifefbhllfdmlaaGreatDoor
open Go Go.Vo
open Nat (reduceAdd reduceSub reduceMul reduceLeDiff reduceLT reduceEqDiff)
open Int (reduceNeg)

def mL (x : Str) (L : List Str) (b : Str × Str) : List Str := if b.1 = x ∧ L.contains b.2 = false then L ++ [b.2] else L
def mX (l : List (Str × Str)) (x : Str) (L : List Str) : List Str := l.foldl (mL x) L
def climbG (l : List (Str × Str)) : Nat → Nat → List Str → List Str
 | 0, _, L => L
 | f + 1, i, L => if i < L.length then climbG l f (i + 1) (mX l (L.getD i []) L) else L
def climb (l : List (Str × Str)) (a : Str) : List Str := climbG l (l.length + 1) 0 [a]

theorem vH (x : Str) (L : List Str) (b : Str × Str) : (mL x L b = L) ∨ (b.1 = x ∧ L.contains b.2 = false ∧ mL x L b = L ++ [b.2]) := by
 unfold mL
 split
 · rename_i h; exact .inr ⟨h.1, h.2, rfl⟩
 · exact .inl rfl
structure Climbs (l : List (Str × Str)) (a : Str) (L : List Str) : Prop where
 nd : L.Nodup
 sub : ∀ x ∈ L, x = a ∨ ∃ b ∈ l, b.2 = x
 me : a ∈ L
theorem Climbs.step {l : List (Str × Str)} {a x : Str} {L : List Str} {b : Str × Str} (h : Climbs l a L) (hb : b ∈ l) : Climbs l a (mL x L b) := by
 rcases vH x L b with e | ⟨_, h2, e⟩
 · rw [e]; exact h
 · rw [e]
   refine ⟨?_, ?_, by simp [h.me]⟩
   · rw [jA]
     refine ⟨h.nd, by simp, ?_⟩
     intro y hy z hz hyz
     simp only [bC] at hz
     have : b.2 ∉ L := by simpa using h2
     exact this (hz ▸ hyz ▸ hy)
   · intro y hy
     rcases bJ.1 hy with hy | hy
     · exact h.sub y hy
     · simp only [bC] at hy; exact .inr ⟨b, hb, hy.symm⟩
theorem tB {α : Type} [DecidableEq α] : ∀ {L M : List α}, L.Nodup → (∀ x ∈ L, x ∈ M) → L.length ≤ M.length
 | [], M, _, _ => aG _
 | x :: L, M, hn, hs => by
   rw [gZ] at hn
   have hx := hs x (by simp)
   have := tB (L := L) (M := M.erase x) hn.2 (fun y hy => by
     have hne : y ≠ x := fun e => hn.1 (e ▸ hy)
     exact (List.mem_erase_of_ne hne).2 (hs y (by simp [hy])))
   rw [List.length_erase_of_mem hx] at this
   have hpos : 0 < M.length := V4 hx
   simp only [aQ]; omega
theorem Climbs.len {l : List (Str × Str)} {a : Str} {L : List Str} (h : Climbs l a L) : L.length ≤ l.length + 1 := by
 have := tB (M := a :: l.map (·.2)) h.nd (fun x hx => by
   rcases h.sub x hx with h1 | ⟨b, h1, h2⟩
   · simp [h1]
   · simp only [bV, dI]; exact .inr ⟨b, h1, h2⟩)
 simpa using this
theorem sM {x : Str} {L : List Str} {b : Str × Str} {i : Nat} (hi : i < L.length) : (mL x L b).getD i [] = L.getD i [] ∧ i < (mL x L b).length := by
 rcases vH x L b with e | ⟨_, _, e⟩
 · rw [e]; exact ⟨rfl, hi⟩
 · rw [e]; simp [List.getD, aD hi]; omega
theorem yR {l : List (Str × Str)} {i : Nat} {L : List Str} (h : L.length ≤ i) : ∀ f, climbG l f i L = L
 | 0 => rfl
 | f + 1 => by simp only [climbG]; rw [if_neg (by omega)]

theorem jE {l : List (Str × Str)} {x : Str} {L : List Str} {k : Nat} (h : k < l.length) : mX (l.take (k + 1)) x L = mL x (mX (l.take k) x L) (l.getD k ([], [])) := by
 rw [eU (d := ([], [])) h]; simp [mX, lH]

structure uE (l : List (Str × Str)) (a : Str) (i : Nat) (L : List Str) : Prop where
 le : i ≤ L.length
 c : Climbs l a L
 eq : climbG l (l.length + 1 - i) i L = climb l a
theorem uE.start (l : List (Str × Str)) (a : Str) : uE l a 0 [a] := ⟨by simp, ⟨by simp, by simp, by simp⟩, rfl⟩
theorem uE.next {l : List (Str × Str)} {a : Str} {i : Nat} {L : List Str} (h : uE l a i L) (hi : i < L.length) (hc : Climbs l a (mX l (L.getD i []) L)) (hl : i < (mX l (L.getD i []) L).length) : uE l a (i + 1) (mX l (L.getD i []) L) := by
 refine ⟨hl, hc, ?_⟩
 have := h.c.len
 have e : l.length + 1 - i = (l.length + 1 - (i + 1)) + 1 := by omega
 rw [← h.eq, e, climbG, if_pos hi]

theorem bIq (s : cC) (a : Str) (hb : s.below.length ≤ 1000000): CT 95 [.agg (aN s), .s a] (.own 1 ((climb s.below a).map .s) (climb s.below a).length) := by
 refine aF mixed Tryz.func95 g0 ?_
 · skip
   refine bP (fun (t : Nat × List Str × AV × List AObj) => [.k, .k, .k, .k, .k, .v (t.2.2.1), .v (.i .i64 (t.1 : Nat)), .k, .j, .k, .k, .j, .j, .j, .j, .j, .j, .j, .j, .j, .j, .j, .j, .j, .j, .j, .j, .j, .j, .j, .j, .j, .j, .j, .j, .j, .j, .j, .j, .j, .j, .j, .j, .j, .k]) (fun t => .box false [.sl (s.sorts.map .s) s.sorts.length, .sl (s.below.flatMap bW) s.below.length, .sl (s.ops.flatMap bI) s.ops.length, .sl (s.funs.flatMap bI) s.funs.length, .sl (s.values.map .s) s.values.length] :: t.2.2.2) (fun t => uE s.below a t.1 t.2.1 ∧ eP 1 1 t.2.2.2 t.2.2.1 (t.2.1.map .s) t.2.1.length) (fun t => s.below.length + 1 - t.1) ((0, [a], .hs 1 0 1 false, [.arr false 1 [.s a]])) ⟨uE.start _ _, .inr ⟨0, rfl, rfl, rfl⟩⟩ rfl (by simp [eN]) ?_
   rintro ⟨i, L, out, g⟩ j ⟨hI, ho⟩
   dsimp only at hI ho
   have hlen := hI.c.len
   have hle := hI.le
   rcases ho with ⟨_, hnil, _⟩ | ⟨i0, rfl, hg, _⟩
   · exfalso
     have h1 : L = [] := by simpa using hnil
     have := hI.c.me
     simp [h1] at this
   refine zh hg ?_
   (refine zx0 hg ?_; repeat' first | exact trivial | refine zJ ?_ ?_ | refine zH fun hc => ?_)
   · have hcl : i < L.length := by simpa using hc
     refine bP (fun (t : Nat × List Str × AV × List AObj) => [.k, .k, .k, .k, .k, .v (t.2.2.1), .k, .k, .j, .k, .k, .k, .k, .k, .k, .k, .k, .k, .k, .k, .v (.i .i64 (t.1 : Nat)), .j, .j, .j, .j, .j, .j, .j, .j, .j, .j, .j, .j, .j, .j, .j, .j, .j, .j, .j, .j, .j, .j, .j, .k]) (fun t => .box false [.sl (s.sorts.map .s) s.sorts.length, .sl (s.below.flatMap bW) s.below.length, .sl (s.ops.flatMap bI) s.ops.length, .sl (s.funs.flatMap bI) s.funs.length, .sl (s.values.map .s) s.values.length] :: t.2.2.2) (fun t => t.1 ≤ s.below.length ∧ t.2.1 = mX (s.below.take t.1) (L.getD i []) L ∧ Climbs s.below a t.2.1 ∧ (t.2.1.getD i [] = L.getD i [] ∧ i < t.2.1.length) ∧ eP 1 1 t.2.2.2 t.2.2.1 (t.2.1.map .s) t.2.1.length) (fun t => s.below.length - t.1) ((0, L, .hs (i0 + 1) 0 L.length false, g)) ⟨aG _, rfl, hI.c, ⟨rfl, hcl⟩, .inr ⟨i0, rfl, hg, by simp⟩⟩ rfl (by simp [eN]) ?_
     rintro ⟨k, M, out, g⟩ j ⟨hk, hM, hc2, ⟨hget, hlt⟩, ho⟩
     dsimp only at hk hM hc2 hget hlt ho
     have hlenM := hc2.len
     have ho1 := ho
     rcases ho with ⟨_, hnil, _⟩ | ⟨i1, rfl, hg1, _⟩
     · exfalso
       have h1 : M = [] := by simpa using hnil
       simp [h1] at hlt
     have hi1 := aO hg1
     have hg2 : ∀ m, (g ++ m)[i1]? = some (.arr false 1 (M.map .s)) := fun m => by rw [aD hi1]; exact hg1
     refine zh hg2 ?_
     (refine zx1 hg2 (A6 M (s.below.getD k ([], [])).2) ?_; repeat' first | exact trivial | refine zJ ?_ ?_ | refine zH fun hc => ?_)
     · have e : mL (L.getD i []) M (s.below.getD k ([], [])) = M ++ [(s.below.getD k ([], [])).2] := if_pos ⟨by rw [← hget]; assumption, hc⟩
       have hp := sM (x := L.getD i []) (b := s.below.getD k ([], [])) hlt
       have hst := hc2.step (x := L.getD i []) (bB (d := ([], [])) (show k < s.below.length by omega))
       rw [e] at hp hst
       refine ⟨(k + 1, M ++ [(s.below.getD k ([], [])).2], .hs (g.length + 2 + 1) 0 (M.length + 1) false, _), ⟨by omega, ?_, hst, ⟨hp.1.trans hget, hp.2⟩, .inr ⟨g.length + 2, by simp, ?_, by simp⟩⟩, by simp; omega, rfl, by simp⟩
       · rw [jE (by omega), ← hM, e]
       · simp
     · have e : mL (L.getD i []) M (s.below.getD k ([], [])) = M := if_neg (by rw [hc]; simp)
       refine ⟨(k + 1, M, _, _), ⟨by omega, ?_, hc2, ⟨hget, hlt⟩, ho1.more _⟩, by simp; omega, rfl, by simp⟩
       rw [jE (by omega), ← hM, e]
     · have e : mL (L.getD i []) M (s.below.getD k ([], [])) = M := if_neg (by rw [hget] at hc; exact fun h => hc h.1)
       refine ⟨(k + 1, M, _, _), ⟨by omega, ?_, hc2, ⟨hget, hlt⟩, ho1.more _⟩, by simp; omega, rfl, by simp⟩
       rw [jE (by omega), ← hM, e]
     · have h1 : s.below.take k = s.below := aJ (by omega)
       rw [h1] at hM
       subst hM
       exact ⟨(i + 1, _, _, _), ⟨hI.next hcl hc2 hlt, ho1⟩, by simp; omega, rfl, by simp⟩
   · have hd := hI.eq
     rw [yR (by omega)] at hd
     subst hd
     exact uR (pre := [_]) (.inr ⟨i0, rfl, hg, by simp⟩) iO
theorem aWl (s : cC) (a : Str) (hb : s.below.length ≤ 1000000): CT 164 [.agg (aN s), .s a] (.own 1 ((climb s.below a).map .s) (climb s.below a).length) := by
 refine aF mixed Tryz.func164 g0 ?_
 · skip
   refine bP (fun (t : Nat × List Str × AV × List AObj) => [.k, .k, .k, .k, .k, .v (t.2.2.1), .v (.i .i64 (t.1 : Nat)), .k, .j, .k, .k, .j, .j, .j, .j, .j, .j, .j, .j, .j, .j, .j, .j, .j, .j, .j, .j, .j, .j, .j, .j, .j, .j, .j, .j, .j, .j, .j, .j, .j, .j, .j, .j, .j, .k]) (fun t => .box false [.sl (s.sorts.map .s) s.sorts.length, .sl (s.below.flatMap bW) s.below.length, .sl (s.ops.flatMap bI) s.ops.length, .sl (s.funs.flatMap bI) s.funs.length, .sl (s.values.map .s) s.values.length] :: t.2.2.2) (fun t => uE s.below a t.1 t.2.1 ∧ eP 1 1 t.2.2.2 t.2.2.1 (t.2.1.map .s) t.2.1.length) (fun t => s.below.length + 1 - t.1) ((0, [a], .hs 1 0 1 false, [.arr false 1 [.s a]])) ⟨uE.start _ _, .inr ⟨0, rfl, rfl, rfl⟩⟩ rfl (by simp [eN]) ?_
   rintro ⟨i, L, out, g⟩ j ⟨hI, ho⟩
   dsimp only at hI ho
   have hlen := hI.c.len
   have hle := hI.le
   rcases ho with ⟨_, hnil, _⟩ | ⟨i0, rfl, hg, _⟩
   · exfalso
     have h1 : L = [] := by simpa using hnil
     have := hI.c.me
     simp [h1] at this
   refine zh hg ?_
   (refine zx0 hg ?_; repeat' first | exact trivial | refine zJ ?_ ?_ | refine zH fun hc => ?_)
   · have hcl : i < L.length := by simpa using hc
     refine bP (fun (t : Nat × List Str × AV × List AObj) => [.k, .k, .k, .k, .k, .v (t.2.2.1), .k, .k, .j, .k, .k, .k, .k, .k, .k, .k, .k, .k, .k, .k, .v (.i .i64 (t.1 : Nat)), .j, .j, .j, .j, .j, .j, .j, .j, .j, .j, .j, .j, .j, .j, .j, .j, .j, .j, .j, .j, .j, .j, .j, .k]) (fun t => .box false [.sl (s.sorts.map .s) s.sorts.length, .sl (s.below.flatMap bW) s.below.length, .sl (s.ops.flatMap bI) s.ops.length, .sl (s.funs.flatMap bI) s.funs.length, .sl (s.values.map .s) s.values.length] :: t.2.2.2) (fun t => t.1 ≤ s.below.length ∧ t.2.1 = mX (s.below.take t.1) (L.getD i []) L ∧ Climbs s.below a t.2.1 ∧ (t.2.1.getD i [] = L.getD i [] ∧ i < t.2.1.length) ∧ eP 1 1 t.2.2.2 t.2.2.1 (t.2.1.map .s) t.2.1.length) (fun t => s.below.length - t.1) ((0, L, .hs (i0 + 1) 0 L.length false, g)) ⟨aG _, rfl, hI.c, ⟨rfl, hcl⟩, .inr ⟨i0, rfl, hg, by simp⟩⟩ rfl (by simp [eN]) ?_
     rintro ⟨k, M, out, g⟩ j ⟨hk, hM, hc2, ⟨hget, hlt⟩, ho⟩
     dsimp only at hk hM hc2 hget hlt ho
     have hlenM := hc2.len
     have ho1 := ho
     rcases ho with ⟨_, hnil, _⟩ | ⟨i1, rfl, hg1, _⟩
     · exfalso
       have h1 : M = [] := by simpa using hnil
       simp [h1] at hlt
     have hi1 := aO hg1
     have hg2 : ∀ m, (g ++ m)[i1]? = some (.arr false 1 (M.map .s)) := fun m => by rw [aD hi1]; exact hg1
     refine zh hg2 ?_
     (refine zx1 hg2 (wI M (s.below.getD k ([], [])).2) ?_; repeat' first | exact trivial | refine zJ ?_ ?_ | refine zH fun hc => ?_)
     · have e : mL (L.getD i []) M (s.below.getD k ([], [])) = M ++ [(s.below.getD k ([], [])).2] := if_pos ⟨by rw [← hget]; assumption, hc⟩
       have hp := sM (x := L.getD i []) (b := s.below.getD k ([], [])) hlt
       have hst := hc2.step (x := L.getD i []) (bB (d := ([], [])) (show k < s.below.length by omega))
       rw [e] at hp hst
       refine ⟨(k + 1, M ++ [(s.below.getD k ([], [])).2], .hs (g.length + 2 + 1) 0 (M.length + 1) false, _), ⟨by omega, ?_, hst, ⟨hp.1.trans hget, hp.2⟩, .inr ⟨g.length + 2, by simp, ?_, by simp⟩⟩, by simp; omega, rfl, by simp⟩
       · rw [jE (by omega), ← hM, e]
       · simp
     · have e : mL (L.getD i []) M (s.below.getD k ([], [])) = M := if_neg (by rw [hc]; simp)
       refine ⟨(k + 1, M, _, _), ⟨by omega, ?_, hc2, ⟨hget, hlt⟩, ho1.more _⟩, by simp; omega, rfl, by simp⟩
       rw [jE (by omega), ← hM, e]
     · have e : mL (L.getD i []) M (s.below.getD k ([], [])) = M := if_neg (by rw [hget] at hc; exact fun h => hc h.1)
       refine ⟨(k + 1, M, _, _), ⟨by omega, ?_, hc2, ⟨hget, hlt⟩, ho1.more _⟩, by simp; omega, rfl, by simp⟩
       rw [jE (by omega), ← hM, e]
     · have h1 : s.below.take k = s.below := aJ (by omega)
       rw [h1] at hM
       subst hM
       exact ⟨(i + 1, _, _, _), ⟨hI.next hcl hc2 hlt, ho1⟩, by simp; omega, rfl, by simp⟩
   · have hd := hI.eq
     rw [yR (by omega)] at hd
     subst hd
     exact uR (pre := [_]) (.inr ⟨i0, rfl, hg, by simp⟩) iO
end Go.Proofs.YtifefbhllfdmlaaGreatDoor
namespace Go.Proofs.YtifefbhllfdmlaaGreatDoor
open Go Go.Vo
open Nat (reduceAdd reduceSub reduceMul reduceLeDiff reduceLT reduceEqDiff)
open Int (reduceNeg)

theorem bEf : (22 : Nat) ≠ 3 := by decide
theorem bNt {h : List AObj} : iB Tryz.prog h .cap #[22] [.e0] = some (.i .i64 0, h) := aMo bQi
theorem bJt {dr : Option DR} {d : Option Nat} {os : List fN} {K : List AV → List AObj → Prop} {env : List AV} {h : List AObj} {s x : Operand} : dJ Tryz.prog G0 dr (.call ⟨.builtin .append, #[s, x], #[22, 3]⟩) d os K env h = L9 Tryz.prog G0 dr (Tryz.prog.underlying 3) (oC Tryz.prog h 22 (aev G0 env s) (aev G0 env x)) d os K env := sV bEf
theorem bNs : ((0 : Nat) : Int) = 0 := rfl
theorem aBj {a : AV} : ∀ {n : Nat}, (List.replicate n [a]).flatten = List.replicate n a
 | 0 => rfl
 | n + 1 => by rw [gY, dP, aBj]; rfl
attribute [go_sem] bNt bNs Int.sub_zero aBj List.length_replicate false_and aG
attribute [go_sem ↓] bJt
theorem bIe (n : Nat) (hn : n ≤ 1000000): CT 152 [.e0, .i .i64 n] (.own 1 [] 0) := by
 refine aF mixed Tryz.func152 g0 ?_
 · skip
   (refine zs0 ?_; repeat' first | exact trivial | refine zJ ?_ ?_ | refine zH fun hc => ?_)
   · exfalso; omega
   · rw [if_pos (by omega), if_neg (by omega)]
     refine zg ?_
     exact .inr ⟨⟨rfl, rfl, _, rfl, by simp, by simp, rfl⟩, by simp [bS], by simp [bS, iA]⟩
   · exact .inr ⟨⟨rfl, rfl⟩, by simp [bS], by simp [bS]⟩
theorem Z2 {l : List (List Str)} {k : Nat} (h : k < l.length) : (l.map avs)[k]? = some (avs (l.getD k [])) := by simp [h]
attribute [go_sem] Z2
def L0 (l : List (List Str)) : Nat := l.flatten.length
@[simp] theorem bKj : L0 [] = 0 := rfl
theorem xE {l : List (List Str)} {k : Nat} (h : k < l.length) : L0 (l.take (k + 1)) = L0 (l.take k) + (l.getD k []).length := by
 rw [eU (d := []) h]; simp [L0]
theorem aHy {l : List (List Str)} {k : Nat} : L0 (l.take k) ≤ L0 l := by
 have h : (l.take k ++ l.drop k).flatten.length = l.flatten.length := by rw [gI]
 unfold L0
 rw [jP, aH] at h
 omega
theorem aHz {l : List (List Str)} {k : Nat} (h : k < l.length) : L0 (l.take k) + (l.getD k []).length ≤ L0 l := by
 rw [← xE h]; exact aHy
theorem bIr (l : List (List Str)) (hl : l.length ≤ 1000) (hs : L0 l ≤ 1000000): CT 94 [.sl (l.map avs) l.length] (.own 1 (l.flatten.map .s) l.flatten.length) := by
 refine aF mixed Tryz.func94 g0 ?_
 · skip
   refine bP (fun (k : Nat) => [.k, .k, .k, .v (.i .i64 (L0 (l.take k) : Nat)), .k, .j, .k, .k, .k, .k, .k, .v (.i .i64 k), .j, .j, .j, .j, .j, .j, .j, .j, .j, .j, .j, .k, .k, .k, .k, .k, .k, .k, .k, .k, .k, .k, .k, .k]) (fun k => []) (fun k => k ≤ l.length) (fun k => l.length - k) (0) (aG _) rfl (by simp [eN]) ?_
   rintro k j hk
   have hat : k < l.length → L0 (l.take k) + (l.getD k []).length ≤ L0 l := aHz
   have hkk := aHy (l := l) (k := k)
   refine zg ?_
   (refine zs0 ?_; repeat' first | exact trivial | refine zJ ?_ ?_ | refine zH fun hc => ?_)
   · exfalso; omega
   · refine ⟨k + 1, by omega, by omega, ?_, by simp⟩
     rw [xE (by omega)]; simp
   · have h1 : k = l.length := by omega
     subst h1
     refine aMq (bIe (L0 l) (by omega)) (by simp -implicitDefEqProofs (disch := omega) only [aPb, go_sem, simprocAttr]) ?_
     refine zg ?_
     refine bP (fun (t : Nat × AV × List AObj) => [.k, .k, .k, .k, .k, .k, .v (t.2.1), .k, .j, .k, .k, .k, .k, .k, .k, .k, .k, .k, .k, .k, .k, .k, .k, .k, .k, .k, .k, .v (.i .i64 (t.1 : Nat)), .j, .j, .j, .j, .j, .j, .j, .k]) (fun t => t.2.2) (fun t => t.1 ≤ l.length ∧ eP 1 0 t.2.2 t.2.1 ((l.take t.1).flatten.map .s) (L0 (l.take t.1))) (fun t => l.length - t.1) ((0, .hs 0 0 0 false, [.arr false 1 []])) ⟨aG _, .inr ⟨0, rfl, rfl, rfl⟩⟩ rfl (by simp [eN]) ?_
     rintro ⟨k, out, g⟩ j ⟨hk, ho⟩
     dsimp only at hk ho
     have hat : k < l.length → L0 (l.take k) + (l.getD k []).length ≤ L0 l := aHz
     refine zg ?_
     (refine zs0 ?_; repeat' first | exact trivial | refine zJ ?_ ?_ | refine zH fun hc => ?_)
     · refine eV (more := []) (pre := []) (news := (l.getD k []).map .s) (m := (l.getD k []).length) ho rfl (by simp) bAs zo9 sz9 by9 rfl (by decide) (by simp -implicitDefEqProofs (disch := omega) only [go_sem, simprocAttr]) (by simp -implicitDefEqProofs (disch := omega) only [go_sem, simprocAttr]) ⟨by omega, by omega⟩ ?_
       intro out' g' ho' _
       refine zg ?_
       refine ⟨(k + 1, out', g'), ⟨by omega, ?_⟩, by simp; omega, rfl, by simp⟩
       dsimp only
       rw [xE (by omega), eU (d := []) (by omega), jP, aT]
       simpa using ho'
     · have h1 : k = l.length := by omega
       subst h1
       rw [iF] at ho
       exact uR (pre := []) ho iO
end Go.Proofs.YtifefbhllfdmlaaGreatDoor
namespace Go.Proofs.YtifefbhllfdmlaaGreatDoor
open Go Go.Vo
open Nat (reduceAdd reduceSub reduceMul reduceLeDiff reduceLT reduceEqDiff)
open Int (reduceNeg)

structure Small (s : cC) : Prop where
 sorts : s.sorts.length ≤ 100
 below : s.below.length ≤ 1000
 ops : s.ops.length ≤ 1000
 funs : s.funs.length ≤ 1000
 values : s.values.length ≤ 1000
def keysOf (s : cC) : List Str := fJ ++ s.sorts
def ups (s : cC) (a : Str) : AV := avs (climb s.below a)
def J8 (s : cC) : AV := .mapv ((keysOf s).map .s) ((keysOf s).map (ups s))
def aQg (l : List LOp) : AV := .mapv ((l.map LOp.name).map .s) (l.map elO)
def kP (s : cC) : List AV := aN s ++ [J8 s, aQg s.ops, aQg s.funs]
def cN (s : cC) : AV := .box (kP s) 0
structure K7 (s : cC) : Prop where
 keys : (keysOf s).Nodup
 ops : (s.ops.map LOp.name).Nodup
 funs : (s.funs.map LOp.name).Nodup

theorem xT {s : cC} : ∀ {l : List Str}, persL (l.map (ups s)) = true
 | [] => rfl
 | x :: l => by simp only [aU, persL, ups, sX, xT, dN]
theorem xU : ∀ {l : List LOp}, persL (l.map elO) = true
 | [] => rfl
 | x :: l => by simp [elO, persL, pers, bI, avs, avi, avb, iO, fI, gW, xU]
attribute [go_sem] xT xU
theorem aGi (s : cC) (hs : Small s) (hd : K7 s): CT 48 [.agg (aN s)] (cN s) := by
 refine aF mixed Tryz.func48 g0 ?_
 · skip
   have h1 := hs.sorts
   have h2 := hs.below
   have h3 := hs.ops
   have h4 := hs.funs
   (repeat' (first | refine gT ?_ ?_ | refine gF ?_ ?_ | refine gC ?_ ?_ | (refine cE (bFr) ?_; simp -implicitDefEqProofs (disch := omega) only [go_sem, simprocAttr]) | refine aV (by omega) ?_ | (intro hr; have hc := hr; (try simp only [zdz] at hc); simp -implicitDefEqProofs (disch := omega) only [hr, go_sem, simprocAttr]; (try clear hr))))
   refine aW (bIr [fJ, s.sorts] (by simp) ?_) ?_ ?_
   · simp [L0, fJ]; omega
   · simp -implicitDefEqProofs (disch := omega) only [fJ, go_sem, simprocAttr]
   · simp -implicitDefEqProofs (disch := omega) only [go_sem, simprocAttr]
     have hK : [fJ, s.sorts].flatten = keysOf s := by simp [keysOf]
     have hKl : (keysOf s).length ≤ 107 := by simp [keysOf, fJ]; omega
     rw [hK]
     refine eJ (fun (k : Nat) => [.k, .k, .k, .k, .k, .j, .k, .k, .k, .k, .k, .k, .k, .k, .k, .k, .k, .k, .k, .k, .k, .k, .v (.i .i64 k), .j, .j, .j, .j, .j, .j, .j, .j, .j, .j, .j, .j, .k, .k, .k, .k, .k, .k, .k, .k, .k, .k, .k, .k, .k, .k, .k, .k, .k, .k, .k, .k, .k, .k, .k, .k, .k, .k, .k, .k, .k, .k, .k]) (fun k => [.box false [.sl (s.sorts.map .s) s.sorts.length, .sl (s.below.flatMap bW) s.below.length, .sl (s.ops.flatMap bI) s.ops.length, .sl (s.funs.flatMap bI) s.funs.length, .sl (s.values.map .s) s.values.length], .map false (((keysOf s).take k).map .s) (((keysOf s).take k).map (ups s)), .map false [] [], .map false [] [], .box false [.sl (s.sorts.map .s) s.sorts.length, .sl (s.below.flatMap bW) s.below.length, .sl (s.ops.flatMap bI) s.ops.length, .sl (s.funs.flatMap bI) s.funs.length, .sl (s.values.map .s) s.values.length, .mp 1, .mp 2, .mp 3], .arr false 1 (fJ.map .s), .arr false 1 [.hs 5 0 fJ.length false, .sl (s.sorts.map .s) s.sorts.length], .arr false 1 ((keysOf s).map .s)]) (fun k => k ≤ (keysOf s).length) (fun k => (keysOf s).length - k) (0) _ (aG _) rfl (by simp [eN]) ?_
     rintro k g j hk
     simp -implicitDefEqProofs (disch := omega) only [go_sem, simprocAttr]
     (repeat' (first | refine gT ?_ ?_ | refine gF ?_ ?_ | refine gC ?_ ?_ | refine aV (by omega) ?_ | (intro hr; have hc := hr; (try simp only [zdz] at hc); simp -implicitDefEqProofs (disch := omega) only [hr, go_sem, simprocAttr]; (try clear hr))))
     · refine aW (bIq s ((keysOf s).getD k []) (by omega)) ?_ ?_
       · simp -implicitDefEqProofs (disch := omega) only [go_sem, simprocAttr]
       · have hno := lW (lS (d := []) hd.keys (show k < (keysOf s).length by omega))
         simp -implicitDefEqProofs (disch := omega) only [lU, aOb, hno, go_sem, simprocAttr]
         refine ⟨k + 1, _, by omega, by omega, congr (congrArg List.cons rfl) (congr (congrArg List.cons ?_) rfl), by simp⟩
         rw [eU (d := []) (by omega), aT, aT]; rfl
     · have hk2 : k = (keysOf s).length := by omega
       subst hk2
       refine eJ (fun (k : Nat) => [.k, .k, .k, .k, .k, .k, .k, .j, .k, .k, .k, .k, .k, .k, .k, .k, .k, .k, .k, .k, .k, .k, .k, .k, .k, .k, .k, .k, .k, .k, .k, .k, .k, .k, .k, .k, .k, .k, .v (.i .i64 k), .j, .j, .j, .j, .j, .j, .j, .j, .j, .j, .j, .k, .k, .k, .k, .k, .k, .k, .k, .k, .k, .k, .k, .k, .k, .k, .k]) (fun k => [.box false [.sl (s.sorts.map .s) s.sorts.length, .sl (s.below.flatMap bW) s.below.length, .sl (s.ops.flatMap bI) s.ops.length, .sl (s.funs.flatMap bI) s.funs.length, .sl (s.values.map .s) s.values.length], .map false ((keysOf s).map .s) ((keysOf s).map (ups s)), .map false (((s.ops.take k).map LOp.name).map .s) ((s.ops.take k).map elO), .map false [] [], .box false [.sl (s.sorts.map .s) s.sorts.length, .sl (s.below.flatMap bW) s.below.length, .sl (s.ops.flatMap bI) s.ops.length, .sl (s.funs.flatMap bI) s.funs.length, .sl (s.values.map .s) s.values.length, .mp 1, .mp 2, .mp 3], .arr false 1 (fJ.map .s), .arr false 1 [.hs 5 0 fJ.length false, .sl (s.sorts.map .s) s.sorts.length], .arr false 1 ((keysOf s).map .s)]) (fun k => k ≤ s.ops.length) (fun k => s.ops.length - k) (0) _ (aG _) rfl (by simp [eN]) ?_
       rintro k g j hk
       simp -implicitDefEqProofs (disch := omega) only [go_sem, simprocAttr]
       (repeat' (first | refine gT ?_ ?_ | refine gF ?_ ?_ | refine gC ?_ ?_ | refine aV (by omega) ?_ | (intro hr; have hc := hr; (try simp only [zdz] at hc); simp -implicitDefEqProofs (disch := omega) only [hr, go_sem, simprocAttr]; (try clear hr))))
       · have hkn : (s.ops.getD k default).name = (s.ops.map LOp.name).getD k [] := by simp [List.getD, show k < s.ops.length by omega]
         have hno := lW (lS (d := []) hd.ops (show k < (s.ops.map LOp.name).length by simp; omega))
         rw [← hkn, ← List.map_take] at hno
         simp -implicitDefEqProofs (disch := omega) only [lU, aOb, hno, go_sem, simprocAttr]
         refine ⟨k + 1, _, by omega, by omega, congr (congrArg List.cons rfl) (congr (congrArg List.cons rfl) (congr (congrArg List.cons ?_) rfl)), by simp⟩
         rw [eU (d := default) (by omega), aT, aT, aT]; rfl
       · have hk2 : k = s.ops.length := by omega
         subst hk2
         refine eJ (fun (k : Nat) => [.k, .k, .k, .k, .k, .k, .k, .k, .k, .j, .k, .k, .k, .k, .k, .k, .k, .k, .k, .k, .k, .k, .k, .k, .k, .k, .k, .k, .k, .k, .k, .k, .k, .k, .k, .k, .k, .k, .k, .k, .k, .k, .k, .k, .k, .k, .k, .k, .k, .k, .k, .k, .k, .v (.i .i64 k), .j, .j, .j, .j, .j, .j, .j, .j, .j, .j, .j, .k]) (fun k => [.box false [.sl (s.sorts.map .s) s.sorts.length, .sl (s.below.flatMap bW) s.below.length, .sl (s.ops.flatMap bI) s.ops.length, .sl (s.funs.flatMap bI) s.funs.length, .sl (s.values.map .s) s.values.length], .map false ((keysOf s).map .s) ((keysOf s).map (ups s)), .map false ((s.ops.map LOp.name).map .s) (s.ops.map elO), .map false (((s.funs.take k).map LOp.name).map .s) ((s.funs.take k).map elO), .box false [.sl (s.sorts.map .s) s.sorts.length, .sl (s.below.flatMap bW) s.below.length, .sl (s.ops.flatMap bI) s.ops.length, .sl (s.funs.flatMap bI) s.funs.length, .sl (s.values.map .s) s.values.length, .mp 1, .mp 2, .mp 3], .arr false 1 (fJ.map .s), .arr false 1 [.hs 5 0 fJ.length false, .sl (s.sorts.map .s) s.sorts.length], .arr false 1 ((keysOf s).map .s)]) (fun k => k ≤ s.funs.length) (fun k => s.funs.length - k) (0) _ (aG _) rfl (by simp [eN]) ?_
         rintro k g j hk
         simp -implicitDefEqProofs (disch := omega) only [go_sem, simprocAttr]
         (repeat' (first | refine gT ?_ ?_ | refine gF ?_ ?_ | refine gC ?_ ?_ | refine aV (by omega) ?_ | (intro hr; have hc := hr; (try simp only [zdz] at hc); simp -implicitDefEqProofs (disch := omega) only [hr, go_sem, simprocAttr]; (try clear hr))))
         · have hkn : (s.funs.getD k default).name = (s.funs.map LOp.name).getD k [] := by simp [List.getD, show k < s.funs.length by omega]
           have hno := lW (lS (d := []) hd.funs (show k < (s.funs.map LOp.name).length by simp; omega))
           rw [← hkn, ← List.map_take] at hno
           simp -implicitDefEqProofs (disch := omega) only [lU, aOb, hno, go_sem, simprocAttr]
           refine ⟨k + 1, _, by omega, by omega, congr (congrArg List.cons rfl) (congr (congrArg List.cons rfl) (congr (congrArg List.cons rfl) (congr (congrArg List.cons ?_) rfl))), by simp⟩
           rw [eU (d := default) (by omega), aT, aT, aT]; rfl
         · refine .inr ⟨?_, by simp [bS, cN], by simp [bS, cN]⟩
           simp only [cN, mH]
           simp -implicitDefEqProofs (disch := omega) only [kP, J8, aQg, go_sem, simprocAttr]
end Go.Proofs.YtifefbhllfdmlaaGreatDoor
namespace Go.Proofs.YtifefbhllfdmlaaGreatDoor
open Go Go.Vo
open Nat (reduceAdd reduceSub reduceMul reduceLeDiff reduceLT reduceEqDiff)
open Int (reduceNeg)

theorem rD {l : List (Str × Str)} {a x : Str} : ∀ (m : List (Str × Str)) (L : List Str), (∀ b ∈ m, b ∈ l) → Climbs l a L → Climbs l a (mX m x L)
 | [], L, _, h => h
 | b :: m, L, hm, h => rD m _ (fun c hc => hm c (by simp [hc])) (h.step (hm b (by simp)))
theorem tS {l : List (Str × Str)} {a : Str} : ∀ (f i : Nat) (L : List Str), Climbs l a L → Climbs l a (climbG l f i L)
 | 0, i, L, h => h
 | f + 1, i, L, h => by
   simp only [climbG]
   split
   · exact tS f _ _ (rD l L (fun _ h => h) h)
   · exact h
theorem T6 (l : List (Str × Str)) (a : Str) : Climbs l a (climb l a) := tS _ _ _ ⟨by simp, by simp, by simp⟩
theorem tR (l : List (Str × Str)) (a : Str) : (climb l a).length ≤ l.length + 1 := (T6 l a).len

theorem G5 {l : List Str} {x : Str} (h : l.contains x = true) : ∃ i, (l.findIdx? fun y => decide (x = y)) = some i ∧ ∀ {β : Type} (f : Str → β), (l.map f)[i]? = some (f x) := by
 cases hf : l.findIdx? fun y => decide (x = y) with
 | none =>
   rw [eC] at hf
   have hm : x ∈ l := by simpa using h
   have := hf x hm
   simp at this
 | some i =>
   rw [fM] at hf
   obtain ⟨hi, hx, _⟩ := hf
   have hx : x = l[i] := by simpa using hx
   exact ⟨i, rfl, fun f => by simp [hi, ← hx]⟩
attribute [go_sem] lU aOb
theorem aMw {s : cC} : (kP s)[0]? = some (avs s.sorts) := rfl
theorem aMv {s : cC} : (kP s)[5]? = some (.mapv ((keysOf s).map .s) ((keysOf s).map (ups s))) := rfl
theorem aMu {s : cC} : (kP s)[6]? = some (.mapv ((s.ops.map LOp.name).map .s) (s.ops.map elO)) := rfl
theorem aMt {s : cC} : (kP s)[7]? = some (.mapv ((s.funs.map LOp.name).map .s) (s.funs.map elO)) := rfl
attribute [go_sem] cN aMw aMv aMu aMt
def existsA (s : cC) (a : Str) : Bool := (keysOf s).contains a
theorem xS {s : cC} : pers (cN s) = true := by
 simp only [cN, kP, pers, persL, aN, avs, avb, avo, dF, cS, iO, gW, F8, J8, aQg, xT, xU, dN]
theorem aFn {s : cC} : persL (kP s) = true := by
 have := xS (s := s)
 simpa [cN, pers] using this
attribute [go_sem] aFn
theorem I2 (s : cC) (x : Str): CT 90 [cN s, .s x] (.b (existsA s x)) := by
 refine aF mixed Tryz.func90 g0 ?_
 · skip
   by_cases hx : (keysOf s).contains x = true
   · obtain ⟨i, hf, hv⟩ := G5 hx
     simp -implicitDefEqProofs (disch := omega) only [hf, hv, go_sem, simprocAttr]
     exact aE (by rw [existsA, hx]) rfl
   · have hx := fF.2 hx
     refine zh (qS hx) ?_
     exact aE (by rw [existsA, hx]) rfl
def mT : Str := [65, 110, 121]
def V0 (s : cC) (x : Str) : List Str := if existsA s x then climb s.below x else []
def iN (s : cC) (x y : Str) : Bool := decide (y = mT) || (V0 s x).contains y
theorem aRv (s : cC) (x y : Str) (hs : Small s): CT 158 [cN s, .s x, .s y] (.b (iN s x y)) := by
 refine aF mixed Tryz.func158 g0 ?_
 · skip
   have hl := tR s.below x
   have h2 := hs.below
   by_cases hx : (keysOf s).contains x = true
   · obtain ⟨i, hf, hv⟩ := G5 hx
     (repeat' (first | refine gT ?_ ?_ | refine gF ?_ ?_ | refine gC ?_ ?_ | (refine cE (A6 (climb s.below x) y (by omega)) ?_; simp -implicitDefEqProofs (disch := omega) only [hf, hv, ups, go_sem, simprocAttr]) | refine aV (by omega) ?_ | (intro hr; have hc := hr; (try simp only [zdz] at hc); simp -implicitDefEqProofs (disch := omega) only [hr, hf, hv, ups, go_sem, simprocAttr]; (try clear hr))))
     all_goals (refine aE ?_ (by rfl))
     all_goals simp_all [iN, V0, existsA, mT]
   · have hx := fF.2 hx
     (refine zx1 (qS hx) (A6 [] y (by simp)) ?_; repeat' first | exact trivial | refine zJ ?_ ?_ | refine zH fun hc => ?_)
     all_goals (refine aE ?_ (by rfl))
     all_goals simp_all [iN, V0, existsA, mT]
def aFr (s : cC) (x y : Str) : Bool := iN s x y || iN s y x
theorem bNd (s : cC) (x y : Str) (hs : Small s): CT 186 [cN s, .s x, .s y] (.b (aFr s x y)) := by
 refine aF mixed Tryz.func186 g0 ?_
 · skip
   (refine zs2 (aRv s x y hs) (aRv s y x hs) ?_; repeat' first | exact trivial | refine zJ ?_ ?_ | refine zH fun hc => ?_)
   all_goals (refine aE ?_ (by rfl))
   all_goals simp_all [aFr]
end Go.Proofs.YtifefbhllfdmlaaGreatDoor
namespace Go.Proofs.YtifefbhllfdmlaaGreatDoor
open Go Go.Vo
open Nat (reduceAdd reduceSub reduceMul reduceLeDiff reduceLT reduceEqDiff)
open Int (reduceNeg)

def Z9 (s : Str) (c : Int) : Int := Lib.indexByte s c.toNat.toUInt8
def aDo : Str := [97, 100, 100, 32, 115, 117, 98, 32, 109, 117, 108, 32, 100, 105, 118, 32, 109, 111, 100, 32, 110, 101, 103, 32, 108, 116, 32, 108, 101, 32, 103, 116, 32, 103, 101, 32, 101, 113, 32, 110, 101, 32, 97, 110, 100, 32, 111, 114, 32, 110, 111, 116, 32, 112, 105, 99, 107, 32, 99, 97, 116, 32, 108, 101, 110, 103, 116, 104, 32, 116, 101, 120, 116, 32, 106, 111, 105, 110, 32, 103, 101, 116, 32, 112, 117, 116, 32, 104, 97, 115, 32, 100, 101, 108, 32, 107, 101, 121, 115, 32, 115, 105, 122, 101, 32, 105, 115, 32, 105, 115, 118, 97, 108, 117, 101]
def yX : List Str := Lib.fields aDo

theorem bOl {X : Ctx} {w : World} {h : List AObj} {l : Str} {v : Value} (r : RV X w h (.s l) v) : v = .string ⟨l.toArray⟩ := by
 cases r with
 | s => rfl
 | dead hr _ _ => simp [AV.refs] at hr
theorem bCy {vs : Array Value} (h : 2 = vs.size) : ∃ a b, vs = #[a, b] := by
 match vs, h with
 | ⟨[a, b]⟩, _ => exact ⟨a, b, rfl⟩
theorem aUr {vs : Array Value} (h : 1 = vs.size) : ∃ a, vs = #[a] := by
 match vs, h with
 | ⟨[a]⟩, _ => exact ⟨a, rfl⟩

theorem bHv (s : Str) (c : Int) : CT 232 [.s s, .i .u8 c] (.i .i64 (Z9 s c)) := by
 refine ⟨by kernel_rfl, g0, ?_⟩
 intro F w vs hF hgl hl hr
 obtain ⟨v0, v1, rfl⟩ := bCy hl
 have h0 := bOl (hr 0 _ v0 rfl rfl)
 have h1 := rH (hr 1 _ v1 rfl rfl)
 subst h0 h1
 refine (Tryz.strings_IndexByte ⟨s.toArray⟩ c w).mono ?_
 rintro e w' ⟨rfl, rfl⟩
 exact ⟨_, F, [], rfl, .refl _, fun _ h => h, fun _ h => .inl h, hF, RR.val (.i _ _), dC, by simp⟩

theorem aTb {F : Nat → Prop} {w : World} {g : Nat} {cells : List AV} (r : RV (.none F) w [] (.box cells 0) (.pointer (some ⟨g, 0, Option.none⟩))) {j : Nat} {k : IntKind} {n : Int} (h : cells[j]? = some (.i k n)) : w.cell? ⟨g, j, none⟩ = some (.int k n) := by
 generalize hv : Value.pointer (some ⟨g, 0, Option.none⟩) = v at r
 cases r with
 | @box _ _ b o cs T fr hF hb hl h1 hr =>
   simp only [Value.pointer.injEq, aA, Addr.mk.injEq, and_true] at hv
   obtain ⟨rfl, h0⟩ := hv
   have ho : o = 0 := by omega
   subst ho
   have hj := aO h
   have hc : cs[0 + j]? = some cs[0 + j] := bU (by omega)
   have := rH (hr j _ _ h hc)
   simp only [bX] at this hc
   simp [World.cell?, hb, hc, this]
 | dead hr hd _ => simp [AV.refs] at hr
theorem aGx {F : Nat → Prop} {w : World} (hgl : ∀ k a, G0 k = some a → GRel (.none F) w [] k a) (c : Nat) (hc : c < 256) : w.cell? ⟨0, c, none⟩ = some (.int .u8 (if Lib.isSp (UInt8.ofNat c) then 1 else 0)) := by
 have r := (hgl 0 (.box uX 0) rfl).1
 refine aTb r ?_
 have h := Lib.asciiSpaceTab_at c hc
 have hl := Lib.asciiSpaceTab_length
 rw [← h]
 exact Q1 (by omega)
theorem bNb (s : Str) (hs : s.length ≤ 4000000000) (ha : s.all (fun b => decide (b.toNat < 128)) = true) : CT 196 [.s s] (.own 1 ((Lib.fields s).map .s) (Lib.fields s).length) := by
 refine ⟨by kernel_rfl, g0, ?_⟩
 intro F w vs hF hgl hl hr
 obtain ⟨v0, rfl⟩ := aUr hl
 have h0 := bOl (hr 0 _ v0 rfl rfl)
 subst h0
 refine (Any.strings_Fields_core Tryz.lays157 (by kernel_rfl) ⟨s.toArray⟩ w (by simp [ByteArray.size]; omega) (fun j b hj => ?_) (fun c hc => aGx hgl c hc)).mono ?_
 · have hm := cG hj
   have := aL.1 ha b hm
   simpa using this
 · rintro e w' ⟨rfl, rfl⟩
   refine ⟨_, F, [w.heap.size], rfl, (fP.alloc _ _).grew, fun _ h => h, fun _ h => .inl h, fun b hb => eF (hF b hb) (fP.alloc w _).grew.size, ?_, by simp, ?_⟩
   · refine .inl ⟨w.heap.size, 0, _, _, (Lib.fields s).length, rfl, rfl, (fP.alloc _ _).at, by simp, aZ _, by simp, ?_, ?_⟩
     · intro j v hj hv
       simp at hv
       obtain ⟨x, _, rfl⟩ := hv
       rfl
     · intro j a v ha hv
       simp at ha hv
       obtain ⟨x, h1, rfl⟩ := ha
       obtain ⟨y, h2, rfl⟩ := hv
       rw [h1] at h2; cases h2
       exact .s _
   · intro b hb
     simp only [bC] at hb
     subst hb
     refine ⟨fun f => ?_, aZ _⟩
     have := hF _ f; omega

def aFa (l : List Str) : List Str := l.mergeSort fun x y => decide (x ≤ y)
end Go.Proofs.YtifefbhllfdmlaaGreatDoor
namespace Go.Proofs.YtifefbhllfdmlaaGreatDoor
open Go Go.Vo
open Nat (reduceAdd reduceSub reduceMul reduceLeDiff reduceLT reduceEqDiff)
open Int (reduceNeg)

theorem aGq : yX.length = 28 := by decide +kernel
theorem aTa (s : Str) : yX.contains s = gL.contains s := by
 have h1 : yX.all (fun x => gL.contains x) = true := by decide +kernel
 have h2 : gL.all (fun x => yX.contains x) = true := by decide +kernel
 rw [cA]
 simp only [aL] at h1 h2
 exact ⟨fun h => h1 s (by simpa using h), fun h => h2 s (by simpa using h)⟩
theorem bFh : CT 196 [.s [97, 100, 100, 32, 115, 117, 98, 32, 109, 117, 108, 32, 100, 105, 118, 32, 109, 111, 100, 32, 110, 101, 103, 32, 108, 116, 32, 108, 101, 32, 103, 116, 32, 103, 101, 32, 101, 113, 32, 110, 101, 32, 97, 110, 100, 32, 111, 114, 32, 110, 111, 116, 32, 112, 105, 99, 107, 32, 99, 97, 116, 32, 108, 101, 110, 103, 116, 104, 32, 116, 101, 120, 116, 32, 106, 111, 105, 110, 32, 103, 101, 116, 32, 112, 117, 116, 32, 104, 97, 115, 32, 100, 101, 108, 32, 107, 101, 121, 115, 32, 115, 105, 122, 101, 32, 105, 115, 32, 105, 115, 118, 97, 108, 117, 101]] (.own 1 (yX.map .s) yX.length) := bNb aDo (by decide) (by decide +kernel)
theorem bAx (s : Str): CT 147 [.s s] (.b (gL.contains s)) := by
 refine aF mixed Tryz.func147 g0 ?_
 · skip
   refine aW bFh (by rfl) ?_
   refine zg ?_
   (refine zs1 (A6 yX s (by rw [aGq]; omega)) ?_; repeat' first | exact trivial | refine zJ ?_ ?_ | refine zH fun hc => ?_)
   refine aE ?_ (by rfl)
   rw [aTa]

def isValue (s : cC) (a : Str) : Bool := s.values.any fun v => iN s a v
def oP (s : cC) (x : Str × Str) : Bool := decide (x.1 ≠ mT) && existsA s x.1 && s.sorts.contains x.2 && !(V0 s x.2).contains x.1
theorem bNk (s : cC) (x : Str × Str) (hs : Small s): CT 89 [cN s, elB x] (.b (oP s x)) := by
 refine aF mixed Tryz.func89 g0 ?_
 · skip
   have hl := tR s.below x.2
   have h2 := hs.below
   have h1 := hs.sorts
   by_cases hx : (keysOf s).contains x.2 = true
   · obtain ⟨i, hf, hv⟩ := G5 hx
     (repeat' (first | refine gT ?_ ?_ | refine gF ?_ ?_ | refine gC ?_ ?_ | ((first | (refine aW (I2 s x.1) ?_ ?_; (focus (simp -implicitDefEqProofs (disch := omega) only [hf, hv, ups, zdA, go_sem, simprocAttr]; done))) | (refine aW (A6 s.sorts x.2 (by omega)) ?_ ?_; (focus (simp -implicitDefEqProofs (disch := omega) only [hf, hv, ups, zdA, go_sem, simprocAttr]; done))) | (refine aW (A6 (climb s.below x.2) x.1 (by omega)) ?_ ?_; (focus (simp -implicitDefEqProofs (disch := omega) only [hf, hv, ups, zdA, go_sem, simprocAttr]; done)))); simp -implicitDefEqProofs (disch := omega) only [hf, hv, ups, go_sem, simprocAttr]) | refine aV (by omega) ?_ | (intro hr; have hc := hr; (try simp only [zdz] at hc); simp -implicitDefEqProofs (disch := omega) only [hr, hf, hv, ups, go_sem, simprocAttr]; (try clear hr))))
     all_goals (refine aE ?_ (by rfl))
     all_goals (simp_all [oP, V0, existsA, mT])
   · have hx := fF.2 hx
     (refine zx3 (qS hx) (I2 s x.1) (A6 s.sorts x.2) (A6 [] x.1 (by simp)) ?_; repeat' first | exact trivial | refine zJ ?_ ?_ | refine zH fun hc => ?_)
     all_goals (refine aE ?_ (by rfl))
     all_goals (simp_all [oP, V0, existsA, mT])
end Go.Proofs.YtifefbhllfdmlaaGreatDoor
namespace Go.Proofs.YtifefbhllfdmlaaGreatDoor
open Go Go.Vo
open Nat (reduceAdd reduceSub reduceMul reduceLeDiff reduceLT reduceEqDiff)
open Int (reduceNeg)

def kX (n : Int) : Bool := !(decide (n < 33) || decide (126 < n) || part n || (decide (n = 34) || decide (n = 39) || decide (n = 92)))
def tH (s : Str) : Bool := decide (1 ≤ s.length) && decide (s.length ≤ 20) && s.all fun c => kX c.toNat
theorem aDr (s : Str) (k : Nat) : 0 ≤ at_ s k ∧ at_ s k < 256 := by
 unfold at_
 have := (s.getD k 0).toNat_lt
 omega
theorem bRy (s : Str) (k : Nat) : decide (0 ≤ Z9 [34, 39, 92] (at_ s k)) = (decide (at_ s k = 34) || decide (at_ s k = 39) || decide (at_ s k = 92)) := by
 have h : ∀ n : Nat, n < 256 → decide (0 ≤ Z9 [34, 39, 92] (n : Int)) = (decide ((n : Int) = 34) || decide ((n : Int) = 39) || decide ((n : Int) = 92)) := by decide +kernel
 exact h _ (s.getD k 0).toNat_lt
theorem bHz (s : Str) (hs : s.length ≤ 140737488355328): CT 198 [.s s] (.b (tH s)) := by
 refine aF mixed Tryz.func198 g0 ?_
 · skip
   (refine zs0 ?_; repeat' first | exact trivial | refine zJ ?_ ?_ | refine zH fun hc => ?_)
   any_goals (refine aE ?_ (by rfl); simp_all [tH] <;> omega)
   refine bP (fun (k : Nat) => [.k, .k, .j, .j, .j, .k, .k, .k, .k, .k, .k, .k, .k, .k, .v (.i .i64 k), .j, .j, .j, .j, .j, .j, .j, .j, .j, .j, .j, .j, .j, .j, .j, .j, .j, .j, .j, .j, .j]) (fun k => []) (fun k => k ≤ s.length ∧ ∀ j, j < k → kX (at_ s j) = true) (fun k => s.length - k) (0) ⟨aG _, fun j h => by omega⟩ rfl (by simp [eN]) ?_
   rintro k j ⟨hk, ha⟩
   have hr := aDr s k
   have h3 := bRy s k
   simp only [at_] at h3 hr
   refine zg ?_
   (refine zx2 h3 bFf (bHv [34, 39, 92] ((s.getD k 0).toNat : Int)) ?_; repeat' first | exact trivial | refine zJ ?_ ?_ | refine zH fun hc => ?_)
   · refine aE ?_ (by rfl)
     have h4 := h3.symm.trans (zt hc)
     rw [tH, kA (j := k) (by omega) (by simp only [kX, at_, h4, cR, Bool.not_true]), Bool.and_false]
   · have h4 := h3.symm.trans (zf hc)
     exact ⟨k + 1, ⟨by omega, aY ha (by simp only [kX, at_, h4, bZ]; simp_all)⟩, by omega, by simp⟩
   · refine aE ?_ (by rfl)
     rw [tH, kA (j := k) (by omega) (by simp only [kX, at_, hc, cR, cQ, Bool.not_true]), Bool.and_false]
   · refine aE ?_ (by rfl)
     rw [tH, kA (j := k) (by omega) (by simp only [kX, at_, hc, decide_true, cR, cQ, Bool.not_true]), Bool.and_false]
   · refine aE ?_ (by rfl)
     rw [tH, kA (j := k) (by omega) (by simp only [kX, at_, hc, decide_true, cR, cQ, Bool.not_true]), Bool.and_false]
   · refine aE ?_ (by rfl)
     have h1 : k = s.length := by omega
     rw [tH, aEc (h1 ▸ ha)]
     simp; omega

def lP (t : Str) : Bool := tH t || cY t && decide (t.length ≤ 20)
def nS (p : Str × Str) : Bool := decide (decide (p.2 = []) = lP p.1) && !(!decide (p.2 = []) && !decide (p.1 = []))
def lY (l : List (Str × Str)) : List Str := (l.filter fun p => !decide (p.2 = [])).map (·.2)
def oH (o : LOp) : Bool := o.pieces.isEmpty || (o.pieces.all nS && decide (o.pieces.length ≤ 20) && decide (lY o.pieces = o.args))
theorem lX {l : List (Str × Str)} {k : Nat} (h : k < l.length) : lY (l.take (k + 1)) = lY (l.take k) ++ (if (l.getD k ([], [])).2 = [] then [] else [(l.getD k ([], [])).2]) := by
 rw [eU (d := ([], [])) h]
 simp only [lY, wV, aT]
 congr 1
 by_cases h2 : (l.getD k ([], [])).2 = []
 · rw [if_pos h2, List.filter_cons_of_neg (by simp only [h2]; decide)]; rfl
 · rw [if_neg h2, List.filter_cons_of_pos (by simp only [h2]; decide)]; rfl
theorem qV {l : List (Str × Str)} : (lY l).length ≤ l.length := by
 unfold lY; rw [fL]; exact List.length_filter_le _ _
theorem lF {n : Nat} : ((n : Int) ≤ 20) ↔ n ≤ 20 := by omega
theorem aEy {o : LOp} {k : Nat} (hk : k < o.pieces.length) (h : nS (o.pieces.getD k ([], [])) = false) : oH o = false := by
 have h1 : o.pieces.all nS = false := eH hk h
 have h2 : o.pieces ≠ [] := fun e => by simp [e] at hk
 simp [oH, h1, h2]
theorem bIi (o : LOp) (ho : OkO o): CT 151 [elO o] (.b (oH o)) := by
 refine aF mixed Tryz.func151 g0 ?_
 · skip
   have hp := ho.piecesT
   have hx := ho.args
   (refine zs0 ?_; repeat' first | exact trivial | refine zJ ?_ ?_ | refine zH fun hc => ?_)
   · refine aE ?_ (by rfl)
     have : o.pieces = [] := List.eq_nil_of_length_eq_zero (by omega)
     simp [oH, this]
   · refine bP (fun (s : Nat × AV × List AObj) => [.k, .k, .j, .v (s.2.1), .k, .j, .j, .k, .k, .k, .k, .k, .k, .k, .v (.i .i64 (s.1 : Nat)), .j, .j, .j, .j, .j, .j, .j, .j, .j, .j, .j, .j, .j, .j, .j, .j, .j, .j, .j, .j, .j, .j, .j, .j, .j, .j, .j, .j, .j, .j, .j, .j, .j, .j, .j, .j, .j, .j, .j, .j, .j, .k, .k, .k, .k, .k, .k, .k, .k, .k, .k]) (fun s => .box false (bI o) :: s.2.2) (fun s => s.1 ≤ o.pieces.length ∧ (∀ j, j < s.1 → nS (o.pieces.getD j ([], [])) = true) ∧ eP 1 1 s.2.2 s.2.1 ((lY (o.pieces.take s.1)).map .s) (lY (o.pieces.take s.1)).length) (fun s => o.pieces.length - s.1) ((0, .e0, [])) ⟨aG _, fun j h => by simp at h, kY⟩ rfl (by simp [eN]) ?_
     rintro ⟨k, out, g⟩ j ⟨hk, ha, ho2⟩
     dsimp only at hk ha ho2
     have hpl : k < o.pieces.length → (o.pieces.getD k ([], [])).1.length ≤ 140737488355328 := fun h => (ho.piecesS _ (bB h)).1
     have hal := qV (l := o.pieces.take k)
     rw [jV] at hal
     refine zg ?_
     (repeat' (first | refine gT ?_ ?_ | refine gF ?_ ?_ | refine gC ?_ ?_ | ((first | (refine aW (bHz (o.pieces.getD k ([], [])).1 (hpl (by omega))) ?_ ?_; (focus (simp -implicitDefEqProofs (disch := omega) only [zdA, go_sem, simprocAttr]; done))) | (refine aW (I4 (o.pieces.getD k ([], [])).1 (hpl (by omega))) ?_ ?_; (focus (simp -implicitDefEqProofs (disch := omega) only [zdA, go_sem, simprocAttr]; done)))); simp -implicitDefEqProofs (disch := omega) only [go_sem, simprocAttr]) | refine aV (by omega) ?_ | (intro hr; have hc := hr; (try simp only [zdz] at hc); simp -implicitDefEqProofs (disch := omega) only [hr, go_sem, simprocAttr]; (try clear hr))))
     all_goals first | (exfalso; omega) | skip
     all_goals first | (refine aE ?_ (by rfl); rw [aEy (k := k) (by omega) (by simp_all [nS, lP, List.length_eq_zero_iff, lF])]; done) | skip
     all_goals first | (refine ⟨(k + 1, out, _), ⟨by omega, aY ha (by simp_all [nS, lP, List.length_eq_zero_iff, lF]), ?_⟩, by simp; omega, rfl, rfl, by simp⟩; dsimp only; rw [lX (by omega), if_pos (List.eq_nil_of_length_eq_zero (by assumption)), List.append_nil]; exact ho2.more _) | skip
     · refine eV (pre := [_]) (news := [.s (o.pieces.getD k ([], [])).2]) (m := 1) ho2 rfl rfl bAs zo9 sz9 by9 rfl (by decide) (by simp -implicitDefEqProofs (disch := omega) only [go_sem, simprocAttr]) (by simp -implicitDefEqProofs (disch := omega) only [go_sem, simprocAttr]) ⟨by omega, by omega⟩ ?_
       intro out' g' ho' _
       refine zg ?_
       refine ⟨(k + 1, out', g'), ⟨by omega, aY ha (by simp_all [nS, lP, List.length_eq_zero_iff, lF]), ?_⟩, by simp; omega, rfl, by simp⟩
       dsimp only
       rw [lX (by omega), if_neg (by rw [← List.length_eq_zero_iff]; assumption), aT, aH]
       exact ho'
     · refine eV (pre := [_]) (news := [.s (o.pieces.getD k ([], [])).2]) (m := 1) ho2 rfl rfl bAs zo9 sz9 by9 rfl (by decide) (by simp -implicitDefEqProofs (disch := omega) only [go_sem, simprocAttr]) (by simp -implicitDefEqProofs (disch := omega) only [go_sem, simprocAttr]) ⟨by omega, by omega⟩ ?_
       intro out' g' ho' _
       refine zg ?_
       refine ⟨(k + 1, out', g'), ⟨by omega, aY ha (by simp_all [nS, lP, List.length_eq_zero_iff, lF]), ?_⟩, by simp; omega, rfl, by simp⟩
       dsimp only
       rw [lX (by omega), if_neg (by rw [← List.length_eq_zero_iff]; assumption), aT, aH]
       exact ho'
     · have hk2 : k = o.pieces.length := by omega
       have hne : o.pieces ≠ [] := fun e => by simp_all
       have hemp : o.pieces.isEmpty = false := by simpa using hne
       have hall : o.pieces.all nS = true := iV (d := ([], [])) (fun j hj => ha j (by omega))
       rw [aJ (by omega)] at ho2
       have hal := qV (l := o.pieces)
       rcases ho2 with ⟨rfl, hnil, _⟩ | ⟨i0, rfl, hg, _⟩
       · have hnil : lY o.pieces = [] := by simpa using hnil
         (refine zs1 (bFi [] o.args (by simp) hx) ?_; repeat' first | exact trivial | refine zJ ?_ ?_ | refine zH fun hc => ?_)
         refine aE ?_ (by rfl)
         rw [oH, hemp, hall, hnil, zt (lF.1 hc)]; simp
       · (refine zx1 hg (bFi (lY o.pieces) o.args (by omega) hx) ?_; repeat' first | exact trivial | refine zJ ?_ ?_ | refine zH fun hc => ?_)
         refine aE ?_ (by rfl)
         rw [oH, hemp, hall, zt (lF.1 hc)]; simp
     · refine aE ?_ (by rfl)
       have hne : o.pieces ≠ [] := fun e => by simp_all
       simp_all [oH, lF]
       omega
end Go.Proofs.YtifefbhllfdmlaaGreatDoor
namespace Go.Proofs.YtifefbhllfdmlaaGreatDoor
open Go Go.Vo
open Nat (reduceAdd reduceSub reduceMul reduceLeDiff reduceLT reduceEqDiff)
open Int (reduceNeg)

theorem qO {s : cC} : persL [cN s] = true := by
 show (pers (cN s) && true) = true
 rw [xS]; rfl
def yC (o : LOp) (i : Int) : Bool := decide (1 ≤ i) && decide (i ≤ o.args.length)
theorem P0 (o : LOp) : persL (bI o) = true := by simp only [bI, persL, pers, sX, P1, avb, gW, dN]
theorem bIl (i : Int) (o : LOp): CT 148 [.i .i64 i, .box (bI o) 0] (.b (yC o i)) := by
 refine aF mixed Tryz.func148 g0 ?_
 · skip
   (refine zs0 ?_; repeat' first | exact trivial | refine zJ ?_ ?_ | refine zH fun hc => ?_)
   all_goals (refine aE ?_ (by rfl))
   all_goals first | (simp_all [yC]; done) | (simp_all [yC]; omega)
def aJd (o : LOp) : Bool := decide (0 ≤ o.prec) && decide (o.prec ≤ 20) && (decide (0 < o.pieces.length) || decide (o.prec = 0))
def aAn (o : LOp) : Bool := decide (0 ≤ o.assoc) && decide (o.assoc ≤ 2) && (decide (0 < o.prec) || decide (o.assoc = 0))
def opHead (s : cC) (o : LOp) : Bool := cY (mJ o.name) && !gL.contains o.name && decide (o.args.length ≤ 8) && o.args.all (existsA s) && s.sorts.contains o.sort
def aKn (s : cC) (o : LOp) : Bool := opHead s o && aJd o && aAn o && o.strict.all (yC o) && decide o.strict.Nodup && oH o
def G7 (s : cC) (o : LOp) : Bool := cY o.name && !gL.contains o.name && decide (o.args.length ≤ 8) && o.args.all (existsA s) && existsA s o.sort && (decide (o.pieces.length = 0) && decide (o.prec = 0) && decide (o.assoc = 0) && decide (o.strict.length = 0))
theorem bBl {n : Nat} : (8 < (n : Int)) ↔ ¬ n ≤ 8 := by omega
theorem aSv {n : Nat} : ((n : Int) ≤ 8) ↔ n ≤ 8 := by omega
theorem aMn {n : Nat} : (0 < (n : Int)) ↔ 0 < n := by omega
theorem bNr {n : Nat} : ((n : Int) = 0) ↔ n = 0 := by omega
theorem bNi (s : cC) (o : LOp) (hs : Small s) (ho : OkO o): CT 93 [cN s, elO o] (.b (G7 s o)) := by
 refine aF mixed Tryz.func93 g0 ?_
 · skip
   (refine zs4 (I4 o.name ho.name) (bAx o.name) (aRx o.args 90 [cN s] [] (existsA s) ho.args qO rfl (fun k hk => I2 s (o.args.getD k []))) (I2 s o.sort) ?_; repeat' first | exact trivial | refine zJ ?_ ?_ | refine zH fun hc => ?_)
   all_goals (refine aE ?_ (by rfl))
   all_goals simp only [aSv, bNr] at *
   all_goals simp only [G7, *, decide_true, decide_false, Bool.and_true, Bool.true_and, Bool.and_false, Bool.false_and, Bool.not_true, Bool.not_false, cR, cQ, bZ, cI]
end Go.Proofs.YtifefbhllfdmlaaGreatDoor
namespace Go.Proofs.YtifefbhllfdmlaaGreatDoor
open Go Go.Vo
open Nat (reduceAdd reduceSub reduceMul reduceLeDiff reduceLT reduceEqDiff)
open Int (reduceNeg)

theorem bNj (s : cC) (o : LOp) (hs : Small s) (ho : OkO o): CT 92 [cN s, elO o] (.b (aKn s o)) := by
 refine aF mixed Tryz.func92 g0 ?_
 · skip
   have hb := dT (I9 o.name) ho.name
   have h1 := hs.sorts
   (repeat' (first | refine gT ?_ ?_ | refine gF ?_ ?_ | refine gC ?_ ?_ | ((first | (refine aW (aWm o.name ho.name) ?_ ?_; (focus (simp -implicitDefEqProofs (disch := omega) only [zdA, go_sem, simprocAttr]; done))) | (refine aW (I4 (mJ o.name) hb) ?_ ?_; (focus (simp -implicitDefEqProofs (disch := omega) only [zdA, go_sem, simprocAttr]; done))) | (refine aW (bAx o.name) ?_ ?_; (focus (simp -implicitDefEqProofs (disch := omega) only [zdA, go_sem, simprocAttr]; done))) | (refine aW (aRx o.args 90 [cN s] [] (existsA s) ho.args qO rfl (fun k hk => I2 s (o.args.getD k []))) ?_ ?_; (focus (simp -implicitDefEqProofs (disch := omega) only [zdA, go_sem, simprocAttr]; done))) | (refine aW (A6 s.sorts o.sort (by omega)) ?_ ?_; (focus (simp -implicitDefEqProofs (disch := omega) only [zdA, go_sem, simprocAttr]; done))) | (refine aW (bIk o.strict 148 [] [.box (bI o) 0] (yC o) ho.strict rfl (by simp only [persL, pers, P0, dN]) (fun k hk => bIl (o.strict.getD k 0) o)) ?_ ?_; (focus (simp -implicitDefEqProofs (disch := omega) only [zdA, go_sem, simprocAttr]; done))) | (refine aW (bIj o.strict ho.strict) ?_ ?_; (focus (simp -implicitDefEqProofs (disch := omega) only [zdA, go_sem, simprocAttr]; done))) | (refine aW (bIi o ho) ?_ ?_; (focus (simp -implicitDefEqProofs (disch := omega) only [zdA, go_sem, simprocAttr]; done)))); simp -implicitDefEqProofs (disch := omega) only [go_sem, simprocAttr]) | refine aV (by omega) ?_ | (intro hr; have hc := hr; (try simp only [zdz] at hc); simp -implicitDefEqProofs (disch := omega) only [hr, go_sem, simprocAttr]; (try clear hr))))
   all_goals (refine aE ?_ (by rfl))
   all_goals try simp only [bBl, aMn, B0] at *
   all_goals first | (exfalso; omega) | skip
   all_goals simp only [aKn, opHead, aJd, aAn, *, decide_true, decide_false, Bool.and_true, Bool.true_and, Bool.and_false, Bool.false_and, Bool.not_true, Bool.not_false, cR, cQ, bZ, cI]
   all_goals first | (simp; done) | (simp_all; done) | (simp_all; omega)
end Go.Proofs.YtifefbhllfdmlaaGreatDoor
namespace Go.Proofs.YtifefbhllfdmlaaGreatDoor
open Go Go.Vo
open Nat (reduceAdd reduceSub reduceMul reduceLeDiff reduceLT reduceEqDiff)
open Int (reduceNeg)

attribute [go_sem] List.replicate_zero eY
end Go.Proofs.YtifefbhllfdmlaaGreatDoor
namespace Go.Proofs.YtifefbhllfdmlaaGreatDoor
open Go Go.Vo
open Nat (reduceAdd reduceSub reduceMul reduceLeDiff reduceLT reduceEqDiff)
open Int (reduceNeg)

def vY (x : Str) : Bool := cY x && !fJ.contains x
def mY (s : cC) : List Str := s.ops.map LOp.name ++ s.funs.map LOp.name
def lN (s : cC) : Bool := decide (s.sorts.length ≤ 40) && decide (s.below.length ≤ 200) && decide (s.ops.length + s.funs.length ≤ 200) && decide s.below.Nodup && decide s.values.Nodup
def mK (s : cC) : Bool := decide s.sorts.Nodup && s.sorts.all vY && decide (mY s).Nodup
def nK (s : cC) : Bool := s.below.all (oP s) && s.values.all (existsA s) && s.ops.all (aKn s) && s.funs.all (G7 s)
def cU (s : cC) : Bool := lN s && mK s && nK s
theorem yN {s : cC} (h1 : s.sorts.Nodup) (h2 : s.sorts.all vY = true) (h3 : (mY s).Nodup) : K7 s := by
 refine ⟨?_, ?_, ?_⟩
 · unfold keysOf
   rw [jA]
   refine ⟨by decide, h1, ?_⟩
   intro a ha b hb hab
   subst hab
   have := aL.1 h2 a hb
   simp only [vY, aB, bQ] at this
   have h4 : fJ.contains a = true := by simpa using ha
   rw [h4] at this
   cases this.2
 · unfold mY at h3
   exact (jA.1 h3).1
 · unfold mY at h3
   exact (jA.1 h3).2.1
theorem iQ {s : cC} (h : cU s = true) : K7 s := by
 simp only [cU, mK, aB, decide_eq_true_eq] at h
 exact yN h.1.2.1.1 h.1.2.1.2 h.1.2.2

theorem aKw (s : cC) (ho : OkS s) : ∀ k, k < s.sorts.length → CT 82 ([] ++ [.s (s.sorts.getD k [])] ++ []) (.b (vY (s.sorts.getD k []))) := fun k hk => bNm _ (ho.sortsS _ (bB hk))
theorem aJg {a b : List AV} : persL (a ++ b) = (persL a && persL b) := by
 induction a with
 | nil => simp [persL]
 | cons x l ih => simp [persL, ih, jZ]
theorem bFz (s : cC) (h : (mY s).length ≤ 140737488355328) : CT 81 [.sl ((s.ops.map LOp.name).map .s ++ (s.funs.map LOp.name).map .s) (s.ops.length + s.funs.length)] (.b (decide (mY s).Nodup)) := by
 have := bAv (mY s) h
 simpa only [avs, mY, aT, aH, fL] using this
theorem aXm {α β γ : Type} {f : β → γ} {g : α → β} {a b : List α} : ((a.map g).map f ++ (b.map g).map f).take (a.length + b.length) = (a.map g).map f ++ (b.map g).map f := aJ (by simp)
attribute [go_sem] aJg aXm
theorem aMd (s : cC) (hs : Small s) (ho : OkS s): CT 47 [.agg (aN s)] (.b (cU s)) := by
 refine aF mixed Tryz.func47 g0 ?_
 · skip
   have h1 := hs.sorts
   have h2 := hs.below
   have h3 := hs.ops
   have h4 := hs.funs
   have h5 := hs.values
   (refine zs2 (bNn s.below ho.below) (bAv s.values ho.values) ?_; repeat' first | exact trivial | refine zJ ?_ ?_ | refine zH fun hc => ?_)
   all_goals first | (refine aE ?_ (by rfl); simp only [cU, lN]; simp_all; done) | (refine aE ?_ (by rfl); simp only [cU, lN]; simp_all; omega) | skip
   (repeat' (first | refine gT ?_ ?_ | refine gF ?_ ?_ | refine gC ?_ ?_ | ((first | (refine aW (bAv s.sorts ho.sorts) ?_ ?_; (focus (simp -implicitDefEqProofs (disch := omega) only [zdA, go_sem, simprocAttr]; done))) | (refine aW (aRx s.sorts 82 [] [] vY ho.sorts rfl rfl (aKw s ho)) ?_ ?_; (focus (simp -implicitDefEqProofs (disch := omega) only [zdA, go_sem, simprocAttr]; done))) | (refine aW (bFn s.ops ho.opsT) ?_ ?_; (focus (simp -implicitDefEqProofs (disch := omega) only [zdA, go_sem, simprocAttr]; done))) | (refine aW (bFn s.funs ho.funsT) ?_ ?_; (focus (simp -implicitDefEqProofs (disch := omega) only [zdA, go_sem, simprocAttr]; done))) | (refine aW (bFz s (by simp only [mY, aH, fL]; omega)) ?_ ?_; (focus (simp -implicitDefEqProofs (disch := omega) only [zdA, go_sem, simprocAttr]; done)))); simp -implicitDefEqProofs (disch := omega) only [go_sem, simprocAttr]) | refine aV (by omega) ?_ | (intro hr; have hc := hr; (try simp only [zdz] at hc); simp -implicitDefEqProofs (disch := omega) only [hr, go_sem, simprocAttr]; (try clear hr))))
   all_goals first | (refine aE ?_ (by rfl); simp only [cU, mK, *, decide_true, decide_false, Bool.and_false, Bool.false_and]; done) | skip
   (repeat' (first | refine gT ?_ ?_ | refine gF ?_ ?_ | refine gC ?_ ?_ | ((first | (refine aW (aGi s hs (yN (by assumption) (by assumption) (by assumption))) ?_ ?_; (focus (simp -implicitDefEqProofs (disch := omega) only [zdA, go_sem, simprocAttr]; done))) | (refine aW (bNl s.below 89 [cN s] [] (oP s) ho.below qO rfl (fun k hk => bNk s (s.below.getD k ([], [])) hs)) ?_ ?_; (focus (simp -implicitDefEqProofs (disch := omega) only [zdA, go_sem, simprocAttr]; done))) | (refine aW (aRx s.values 90 [cN s] [] (existsA s) ho.values qO rfl (fun k hk => I2 s (s.values.getD k []))) ?_ ?_; (focus (simp -implicitDefEqProofs (disch := omega) only [zdA, go_sem, simprocAttr]; done))) | (refine aW (bFm s.ops 92 [cN s] [] (aKn s) ho.ops qO rfl (fun k hk => bNj s (s.ops.getD k default) hs (ho.opsO (s.ops.getD k default) (bB hk)))) ?_ ?_; (focus (simp -implicitDefEqProofs (disch := omega) only [zdA, go_sem, simprocAttr]; done))) | (refine aW (bFm s.funs 93 [cN s] [] (G7 s) ho.funs qO rfl (fun k hk => bNi s (s.funs.getD k default) hs (ho.funsO (s.funs.getD k default) (bB hk)))) ?_ ?_; (focus (simp -implicitDefEqProofs (disch := omega) only [zdA, go_sem, simprocAttr]; done)))); simp -implicitDefEqProofs (disch := omega) only [go_sem, simprocAttr]) | refine aV (by omega) ?_ | (intro hr; have hc := hr; (try simp only [zdz] at hc); simp -implicitDefEqProofs (disch := omega) only [hr, go_sem, simprocAttr]; (try clear hr))))
   all_goals first | (refine aE ?_ (by rfl); simp only [cU, mK, nK, *, decide_true, decide_false, Bool.and_false, Bool.false_and]; done) | skip
   all_goals refine aE ?_ (by rfl)
   all_goals simp only [cU, lN, mK, nK, *, decide_true, Bool.and_true, Bool.true_and]
   all_goals (simp; omega)
end Go.Proofs.YtifefbhllfdmlaaGreatDoor
namespace Go.Proofs.YtifefbhllfdmlaaGreatDoor
open Go Go.Vo
open Nat (reduceAdd reduceSub reduceMul reduceLeDiff reduceLT reduceEqDiff)
open Int (reduceNeg)

def bOi (s a b : Str) : Str := if s = a then b else if s = b then a else s
def bDe (s a b : Str) : Str := bOi (mJ s) a b ++ frame s
def bDh (s : cC) (a b x : Str) : Str := if s.sorts.contains x then bOi x a b else x
end Go.Proofs.YtifefbhllfdmlaaGreatDoor
namespace Go.Proofs.YtifefbhllfdmlaaGreatDoor
open Go Go.Vo
open Nat (reduceAdd reduceSub reduceMul reduceLeDiff reduceLT reduceEqDiff)
open Int (reduceNeg)

def bPu (o : LOp) : Nat := o.args.length + o.pieces.length + o.strict.length
def oW (l : List LOp) : Nat := (l.map bPu).sum
def few (s : cC) : Bool := decide (s.sorts.length ≤ 60) && decide (s.below.length ≤ 250) && decide (s.ops.length + s.funs.length ≤ 250) && decide (s.values.length ≤ 100) && decide (oW (s.ops ++ s.funs) ≤ 3000)
@[simp] theorem bJi : oW [] = 0 := rfl
theorem aVh {s : cC} (h : 60 < s.sorts.length ∨ 250 < s.below.length ∨ 250 < s.ops.length + s.funs.length ∨ 100 < s.values.length ∨ 3000 < oW (s.ops ++ s.funs)) : few s = false := by
 unfold few
 simp only [gJ, decide_eq_false_iff_not]
 omega
theorem bAp {s : cC} (h : s.sorts.length ≤ 60 ∧ s.below.length ≤ 250 ∧ s.ops.length + s.funs.length ≤ 250 ∧ s.values.length ≤ 100 ∧ oW (s.ops ++ s.funs) ≤ 3000) : few s = true := by
 unfold few
 simp only [aB, decide_eq_true_eq]
 omega
theorem aGo {l : List LOp} {k : Nat} (h : k < l.length) : oW (l.take (k + 1)) = oW (l.take k) + bPu (l.getD k default) := by
 rw [eU (d := default) h]; simp [oW]
theorem aSz {l : List LOp} {k : Nat} : oW (l.take k) ≤ oW l := by
 have h : oW (l.take k ++ l.drop k) = oW l := by rw [gI]
 unfold oW at *
 rw [aT, List.sum_append] at h
 omega
theorem bNp (s : cC) (hs : OkS s): CT 36 [.agg (aN s)] (.b (few s)) := by
 refine dK (rx := true) (th := fun _ => none) mixed Tryz.func36 g0 ?_
 · simp -implicitDefEqProofs (disch := omega) only [Tryz.f36, go_sem, List.replicate, simprocAttr]
   have h1 := hs.sorts
   have h2 := hs.below
   have h3 := hs.ops
   have h4 := hs.funs
   have h5 := hs.values
   (refine zs0 ?_; repeat' first | exact trivial | refine zJ ?_ ?_ | refine zH fun hc => ?_)
   all_goals first | (refine aE ?_ (by rfl); rw [aVh (by omega)]; done) | skip
   rw [← fU, ← aH]
   have hL : (s.ops ++ s.funs).length = s.ops.length + s.funs.length := aH
   have hO : ∀ x ∈ s.ops ++ s.funs, OkO x := fun x hx => (bJ.1 hx).elim (hs.opsO x) (hs.funsO x)
   have hfin : oW (s.ops ++ s.funs) ≤ 3000 → few s = true := fun h => bAp ⟨by omega, by omega, by omega, by omega, h⟩
   have hfin2 : 3000 < oW (s.ops ++ s.funs) → few s = false := fun h => aVh (by omega)
   generalize s.ops ++ s.funs = L at hL hO hfin hfin2
   refine eJ (fun (k : Nat) => [.k, .k, .j, .v (.i .i64 (oW (L.take k) : Nat)), .k, .j, .k, .k, .k, .k, .k, .k, .k, .k, .k, .k, .k, .k, .k, .k, .k, .k, .k, .k, .k, .k, .k, .k, .k, .k, .k, .k, .k, .k, .k, .k, .k, .k, .k, .k, .v (.i .i64 k), .j, .j, .j, .j, .j, .j, .j, .j, .j, .j, .j, .j, .j, .j, .j, .j, .j, .j, .j]) (fun k => [.box false [.sl (s.sorts.map .s) s.sorts.length, .sl (s.below.flatMap bW) s.below.length, .sl (s.ops.flatMap bI) s.ops.length, .sl (s.funs.flatMap bI) s.funs.length, .sl (s.values.map .s) s.values.length], .dead, .arr false 7 (L.flatMap bI)]) (fun k => k ≤ L.length ∧ oW (L.take k) ≤ 3000) (fun k => L.length - k) (0) _ ⟨aG _, by simp [oW]⟩ rfl (by simp [eN]) ?_
   rintro k g j ⟨hk, hb⟩
   have ho : k < L.length → (L.getD k default).args.length ≤ 140737488355328 ∧ (L.getD k default).pieces.length ≤ 140737488355328 ∧ (L.getD k default).strict.length ≤ 140737488355328 := fun h => ⟨(hO _ (bB h)).args, (hO _ (bB h)).pieces, (hO _ (bB h)).strict⟩
   have hs1 : k < L.length → oW (L.take (k + 1)) = oW (L.take k) + ((L.getD k default).args.length + (L.getD k default).pieces.length + (L.getD k default).strict.length) := fun h => aGo h
   have hle := aSz (l := L) (k := k + 1)
   refine zg ?_
   (refine zs0 ?_; repeat' first | exact trivial | refine zJ ?_ ?_ | refine zH fun hc => ?_)
   · refine aE ?_ (by rfl)
     have := hs1 (by omega)
     rw [hfin2 (by omega)]
   · have h1 := hs1 (by omega)
     refine ⟨k + 1, _, ⟨by omega, by omega⟩, by omega, rfl, ?_⟩
     rw [h1]; simp
   · refine aE ?_ (by rfl)
     have hk2 : k = L.length := by omega
     subst hk2
     rw [iF] at hb
     rw [hfin hb]
end Go.Proofs.YtifefbhllfdmlaaGreatDoor
namespace Go.Proofs.YtifefbhllfdmlaaGreatDoor
open Go Go.Vo
open Nat (reduceAdd reduceSub reduceMul reduceLeDiff reduceLT reduceEqDiff)
open Int (reduceNeg)

def vX (x : Str) : Bool := cY x && !nG.contains x
theorem U5 (x : Str) : fJ.contains x = nG.contains x := by
 have h1 : fJ.all (fun x => nG.contains x) = true := by decide +kernel
 have h2 : nG.all (fun x => fJ.contains x) = true := by decide +kernel
 rw [cA]
 simp only [aL] at h1 h2
 exact ⟨fun h => h1 x (by simpa using h), fun h => h2 x (by simpa using h)⟩
def vJ (s : cC) : Bool := s.sorts.all vX && decide (s.sorts.length ≤ 40) && decide s.sorts.Nodup
theorem aDm {n : Nat} : ((n : Int) ≤ 40) ↔ n ≤ 40 := by omega
theorem bNh (s : cC) (hs : OkS s): CT 102 [.agg (aN s)] (.b (vJ s)) := by
 refine aF mixed Tryz.func102 g0 ?_
 · skip
   have h1 := hs.sorts
   refine eJ (fun (k : Nat) => [.k, .k, .j, .k, .j, .k, .k, .k, .v (.i .i64 k), .j, .j, .j, .j, .j, .j, .j, .j, .j, .j, .j, .j, .k, .k, .k, .k, .k, .k, .k, .k, .k]) (fun k => [.box false [.sl (s.sorts.map .s) s.sorts.length, .sl (s.below.flatMap bW) s.below.length, .sl (s.ops.flatMap bI) s.ops.length, .sl (s.funs.flatMap bI) s.funs.length, .sl (s.values.map .s) s.values.length]]) (fun k => k ≤ s.sorts.length ∧ ∀ j, j < k → vX (s.sorts.getD j []) = true) (fun k => s.sorts.length - k) (0) _ ⟨aG _, fun j h => by omega⟩ rfl (by simp [eN]) ?_
   rintro k g j ⟨hk, ha⟩
   have hpl : k < s.sorts.length → (s.sorts.getD k []).length ≤ 140737488355328 := fun h => hs.sortsS _ (bB h)
   refine zg ?_
   (repeat' (first | refine gT ?_ ?_ | refine gF ?_ ?_ | refine gC ?_ ?_ | ((first | refine cE (I3 (s.sorts.getD k []) (hpl (by omega))) ?_ | refine cE (bAu) ?_ | refine cE (wI nG (s.sorts.getD k []) (by decide)) ?_ | refine cE (aRw s.sorts h1) ?_); simp -implicitDefEqProofs (disch := omega) only [go_sem, simprocAttr]) | refine aV (by omega) ?_ | (intro hr; have hc := hr; (try simp only [zdz] at hc); simp -implicitDefEqProofs (disch := omega) only [hr, go_sem, simprocAttr]; (try clear hr))))
   · refine aE ?_ (by rfl)
     rw [vJ, eH (d := []) (j := k) (by omega) (by simp only [vX, *, Bool.not_true, Bool.and_false])]; rfl
   · exact ⟨k + 1, _, ⟨by omega, aY ha (by simp only [vX, *, Bool.not_false, Bool.and_true])⟩, by omega, rfl, by simp⟩
   · refine aE ?_ (by rfl)
     rw [vJ, eH (d := []) (j := k) (by omega) (by simp only [vX, *, Bool.false_and])]; rfl
   · refine aE ?_ (by rfl)
     have hall : s.sorts.all vX = true := iV (d := []) (fun j hj => ha j (by omega))
     rw [vJ, hall, zt (aDm.1 hc)]; rfl
   · refine aE ?_ (by rfl)
     rw [aDm] at hc
     rw [vJ, zf hc]; simp
def aAp (s : cC) (o : LOp) : Bool := o.args.all (gO s) && decide (o.args.length ≤ 8)
theorem aWk (s : cC) (o : LOp) (hs : s.sorts.length ≤ 140737488355328) (ho : o.args.length ≤ 140737488355328): CT 167 [.agg (aN s), elO o] (.b (aAp s o)) := by
 refine aF mixed Tryz.func167 g0 ?_
 · skip
   refine eJ (fun (k : Nat) => [.k, .k, .k, .k, .j, .k, .j, .k, .k, .k, .v (.i .i64 k), .j, .j, .j, .j, .j, .j, .j, .j, .k, .k, .k, .k]) (fun k => [.box false [.sl (s.sorts.map .s) s.sorts.length, .sl (s.below.flatMap bW) s.below.length, .sl (s.ops.flatMap bI) s.ops.length, .sl (s.funs.flatMap bI) s.funs.length, .sl (s.values.map .s) s.values.length], .box false (bI o)]) (fun k => k ≤ o.args.length ∧ ∀ j, j < k → gO s (o.args.getD j []) = true) (fun k => o.args.length - k) (0) _ ⟨aG _, fun j h => by omega⟩ rfl (by simp [eN]) ?_
   rintro k g j ⟨hk, ha⟩
   refine zg ?_
   (refine zs1 (aGh s (o.args.getD k []) hs) ?_; repeat' first | exact trivial | refine zJ ?_ ?_ | refine zH fun hc => ?_)
   · refine aE ?_ (by rfl)
     rw [aAp, eH (d := []) (j := k) (by omega) hc]; rfl
   · exact ⟨k + 1, _, ⟨by omega, aY ha hc⟩, by omega, rfl, by simp⟩
   · refine aE ?_ (by rfl)
     have hall : o.args.all (gO s) = true := iV (d := []) (fun j hj => ha j (by omega))
     rw [aAp, hall]; simp; omega
theorem aKs {α : Type} {l : List α} {i : Nat} {d : α} (h : i < l.length) : l.getD i d = l[i] := by simp [List.getD, h]
def rM (o : LOp) : Bool := o.strict.all (yC o) && decide o.strict.Nodup
theorem bIg (o : LOp) (ho : OkO o): CT 169 [elO o] (.b (rM o)) := by
 refine aF mixed Tryz.func169 g0 ?_
 · skip
   have h1 := ho.strict
   have h2 := ho.args
   refine bP (fun (k : Nat) => [.k, .k, .j, .j, .j, .k, .j, .k, .k, .k, .v (.i .i64 k), .j, .j, .j, .j, .j, .j, .j, .j, .j, .j, .j, .j, .j, .j, .j, .j, .j, .j, .j, .j, .j, .j, .j, .j, .j, .j, .j]) (fun k => [.box false (bI o)]) (fun k => k ≤ o.strict.length ∧ ∀ j, j < k → (yC o (o.strict.getD j 0) = true ∧ (o.strict.take j).contains (o.strict.getD j 0) = false)) (fun k => o.strict.length - k) (0) ⟨aG _, fun j h => by omega⟩ rfl (by simp [eN]) ?_
   rintro k j ⟨hk, ha⟩
   refine zg ?_
   (refine zs0 ?_; repeat' first | exact trivial | refine zJ ?_ ?_ | refine zH fun hc => ?_)
   · refine aE ?_ (by rfl)
     rw [rM, eH (d := 0) (j := k) (by omega) (by unfold yC; rw [zf (p := o.strict.getD k 0 ≤ _) (by omega), Bool.and_false])]; rfl
   · refine bP (fun (m : Nat) => [.k, .k, .j, .k, .k, .k, .j, .k, .k, .k, .k, .k, .k, .k, .k, .k, .k, .k, .k, .k, .k, .k, .k, .k, .k, .k, .k, .k, .k, .v (.i .i64 m), .j, .j, .j, .j, .j, .j, .j, .k]) (fun m => [.box false (bI o)]) (fun m => m ≤ k ∧ ∀ j, j < m → (o.strict.take k).getD j 0 ≠ o.strict.getD k 0) (fun m => k - m) (0) ⟨aG _, fun j h => by omega⟩ rfl (by simp [eN]) ?_
     rintro m j ⟨hm, hb⟩
     have hlt : (o.strict.take k).length = k := by simp; omega
     refine zh hlt ?_
     (refine zx0 hlt ?_; repeat' first | exact trivial | refine zJ ?_ ?_ | refine zH fun hc => ?_)
     · refine aE ?_ (by rfl)
       have hcon : (o.strict.take k).contains (o.strict.getD k 0) = true := by
         have hm2 := bB (l := o.strict.take k) (d := 0) (k := m) (by omega)
         rw [hc] at hm2
         simpa using hm2
       rw [rM, zf (fun hn => by rw [lS hn (by omega)] at hcon; cases hcon), Bool.and_false]
     · exact ⟨m + 1, ⟨by omega, aY hb hc⟩, by omega, by simp⟩
     · have hmk : m = k := by omega
       subst hmk
       have hno : (o.strict.take m).contains (o.strict.getD m 0) = false := by
         rw [← L7]
         intro hcon
         have hm2 : o.strict.getD m 0 ∈ o.strict.take m := by simpa using hcon
         obtain ⟨i, hi, he⟩ := bL.1 hm2
         exact hb i (by omega) (by rw [aKs hi]; exact he)
       exact ⟨m + 1, ⟨by omega, aY ha ⟨by unfold yC; rw [zt (by omega), zt (by omega)]; rfl, hno⟩⟩, by omega, by simp⟩
   · refine aE ?_ (by rfl)
     rw [rM, eH (d := 0) (j := k) (by omega) (by unfold yC; rw [zf (p := 1 ≤ _) (by omega), Bool.false_and])]; rfl
   · refine aE ?_ (by rfl)
     have h3 : k = o.strict.length := by omega
     have hall : o.strict.all (yC o) = true := iV (d := 0) (fun j hj => (ha j (by omega)).1)
     rw [rM, hall, zt (tC (d := 0) (fun j hj => (ha j (by omega)).2))]; rfl
def kL (n : Int) : Bool := !(decide (n < 33) || decide (126 < n) || tF n || aLr n || decide (n = 95) || decide (n = 34) || decide (n = 39) || decide (n = 92))
def rF (s : Str) : Bool := decide (1 ≤ s.length) && decide (s.length ≤ 20) && (cY s || s.all fun c => kL c.toNat)
theorem bHx (s : Str) (hs : s.length ≤ 140737488355328): CT 211 [.s s] (.b (rF s)) := by
 refine aF mixed Tryz.func211 g0 ?_
 · skip
   (refine zs1 (I3 s hs) ?_; repeat' first | exact trivial | refine zJ ?_ ?_ | refine zH fun hc => ?_)
   · refine aE ?_ (by rfl)
     rw [rF, zf (p := s.length ≤ 20) (by omega)]; simp
   · refine aE ?_ (by rfl)
     rw [rF, zt (p := s.length ≤ 20) (by omega), zt (p := 1 ≤ s.length) (by omega), hc]; rfl
   · refine bP (fun (k : Nat) => [.k, .k, .j, .j, .j, .k, .k, .k, .k, .k, .k, .k, .k, .k, .k, .k, .k, .v (.i .i64 k), .j, .j, .j, .j, .j, .j, .j, .j, .j, .j, .j, .j, .j, .j, .j, .j, .j, .j, .j, .j, .j, .j, .j, .j, .j, .j, .j, .j, .j, .j, .j, .j, .j, .j, .j, .j]) (fun k => []) (fun k => k ≤ s.length ∧ ∀ j, j < k → kL (at_ s j) = true) (fun k => s.length - k) (0) ⟨aG _, fun j h => by omega⟩ rfl (by simp [eN]) ?_
     rintro k j ⟨hk, ha⟩
     have hb : cY s = false := hc
     have hr := aDr s k
     simp only [at_] at hr
     refine zg ?_
     (refine zs2 bFe bFd ?_; repeat' first | exact trivial | refine zJ ?_ ?_ | refine zH fun hc => ?_)
     all_goals first | (refine aE ?_ (by rfl); rw [rF, hb, kA (q := kL) (j := k) (by omega) (by simp only [kL, at_, *, decide_true, cR, cQ, Bool.not_true]), bZ, Bool.and_false]; done) | skip
     · exact ⟨k + 1, ⟨by omega, aY ha (by simp only [kL, at_, *, decide_false, bZ, Bool.not_false])⟩, by omega, by simp⟩
     · refine aE ?_ (by rfl)
       have h1 : k = s.length := by omega
       rw [rF, aEc (q := kL) (h1 ▸ ha), zt (p := s.length ≤ 20) (by omega), zt (p := 1 ≤ s.length) (by omega), cR]; rfl
   · refine aE ?_ (by rfl)
     rw [rF, zf (p := 1 ≤ s.length) (by omega)]; simp
end Go.Proofs.YtifefbhllfdmlaaGreatDoor
namespace Go.Proofs.YtifefbhllfdmlaaGreatDoor
open Go Go.Vo
open Nat (reduceAdd reduceSub reduceMul reduceLeDiff reduceLT reduceEqDiff)
open Int (reduceNeg)

theorem bEn : ((4 : Int) = 0) = False := by decide
attribute [go_sem] ite_self bEn eM decide_true decide_false not_true_eq_false not_false_eq_true Bool.not_true Bool.not_false
def pJ (r : Option LOp) : AV := match r with
 | some o => .tup [elO o, .b true]
 | none => .tup [elO default, .b false]
def zZ (s : cC) (x : Str) : Option LOp := s.ops.find? fun o => decide (o.name = x)
def uP (s : cC) (x : Str) : Option LOp := s.funs.find? fun o => decide (o.name = x)
theorem oR {l : List LOp} {x : Str} : ((l.map LOp.name).findIdx? fun y => decide (x = y)) = l.findIdx? fun o => decide (o.name = x) := by
 rw [List.findIdx?_map]; congr 1; funext o; simp [eq_comm]
theorem aCr {l : List LOp} {x : Str} : (∃ i o, (l.findIdx? fun o => decide (o.name = x)) = some i ∧ l.find? (fun o => decide (o.name = x)) = some o ∧ (l.map elO)[i]? = some (elO o)) ∨ ((l.findIdx? fun o => decide (o.name = x)) = none ∧ l.find? (fun o => decide (o.name = x)) = none) := by
 induction l with
 | nil => right; simp
 | cons a l ih =>
   by_cases h : a.name = x
   · left; exact ⟨0, a, by simp [iK, h], by simp [h], by simp⟩
   · rcases ih with ⟨i, o, h1, h2, h3⟩ | ⟨h1, h2⟩
     · left; exact ⟨i + 1, o, by simp [iK, h, h1], by simp [h, h2], by simpa using h3⟩
     · right; exact ⟨by simp [iK, h, h1], by simp [h, h2]⟩
theorem bFl (s : cC) (x : Str): CT 157 [cN s, .s x] (pJ (zZ s x)) := by
 refine aF mixed Tryz.func157 g0 ?_
 · skip
   rcases aCr (l := s.ops) (x := x) with ⟨i, o, h1, h2, h3⟩ | ⟨h1, h2⟩
   · refine zh (zA2 @oR (zA2 h1 h3)) ?_
     exact aE (by simp only [pJ, zZ, h2]; rfl) (by simp only [pers, persL, iO, gW, fI, dN])
   · refine zh (zA2 @oR h1) ?_
     have : pJ (zZ s x) = .tup [elO default, .b false] := by simp only [pJ, zZ, h2]
     rw [this]
     exact .inr ⟨⟨⟨rfl, rfl, rfl, rfl, rfl, rfl, rfl, trivial⟩, rfl, trivial⟩, by decide, fun i hi => by cases hi⟩
theorem bNe (s : cC) (x : Str): CT 225 [cN s, .s x] (pJ (uP s x)) := by
 refine aF mixed Tryz.func225 g0 ?_
 · skip
   rcases aCr (l := s.funs) (x := x) with ⟨i, o, h1, h2, h3⟩ | ⟨h1, h2⟩
   · refine zh (zA2 @oR (zA2 h1 h3)) ?_
     exact aE (by simp only [pJ, uP, h2]; rfl) (by simp only [pers, persL, iO, gW, fI, dN])
   · refine zh (zA2 @oR h1) ?_
     have : pJ (uP s x) = .tup [elO default, .b false] := by simp only [pJ, uP, h2]
     rw [this]
     exact .inr ⟨⟨⟨rfl, rfl, rfl, rfl, rfl, rfl, rfl, trivial⟩, rfl, trivial⟩, by decide, fun i hi => by cases hi⟩
def aMj (o : LOp) : AV := .agg [.s o.name, .own 1 (o.args.map .s) o.args.length, .s o.sort, .own 2 (o.pieces.flatMap bW) o.pieces.length, .i .i64 o.prec, .i .i64 o.assoc, .own 1 (o.strict.map (.i .i64)) o.strict.length]
def aRl (s : cC) (r : Option LOp) : AV := if cU s then (match r with | some o => .tup [aMj o, .i .i64 0] | none => .tup [elO default, .i .i64 4]) else .tup [elO default, .i .i64 2]
def aDt (s : cC) (xs : List Str) (b : Bool) : AV := if cU s then (if xs.all (existsA s) then .tup [.b b, .i .i64 0] else .tup [.b false, .i .i64 13]) else .tup [.b false, .i .i64 2]
end Go.Proofs.YtifefbhllfdmlaaGreatDoor
namespace Go.Proofs.YtifefbhllfdmlaaGreatDoor
open Go Go.Vo
open Nat (reduceAdd reduceSub reduceMul reduceLeDiff reduceLT reduceEqDiff)
open Int (reduceNeg)

def aFu (s : cC) (p : Str → Bool) : List Str := aFa ((keysOf s).filter p)

theorem aId {L L' : List Str} (h : L.Perm L') : aFa L = aFa L' := by
 unfold aFa
 refine List.Perm.eq_of_pairwise (le := fun x y : Str => x ≤ y) ?_ ?_ ?_ ?_
 · intro a b _ _ h1 h2; exact List.le_antisymm h1 h2
 · have := List.pairwise_mergeSort (le := fun x y : Str => decide (x ≤ y)) (fun a b c h1 h2 => by simp only [decide_eq_true_eq] at *; exact List.le_trans h1 h2) (fun a b => by simp only [bK, decide_eq_true_eq]; exact List.le_total a b) L
   simpa using this
 · have := List.pairwise_mergeSort (le := fun x y : Str => decide (x ≤ y)) (fun a b c h1 h2 => by simp only [decide_eq_true_eq] at *; exact List.le_trans h1 h2) (fun a b => by simp only [bK, decide_eq_true_eq]; exact List.le_total a b) L'
   simpa using this
 · exact ((List.mergeSort_perm L _).trans h).trans (List.mergeSort_perm L' _).symm
end Go.Proofs.YtifefbhllfdmlaaGreatDoor
namespace Go.Proofs.YtifefbhllfdmlaaGreatDoor
open Go Go.Vo
open Nat (reduceAdd reduceSub reduceMul reduceLeDiff reduceLT reduceEqDiff)
open Int (reduceNeg)

def aCe (s : cC) (x : Str) (l : List Str) : AV := if cU s then (if existsA s x then .tup [.own 1 (l.map .s) l.length, .i .i64 0] else .tup [.sl [] 0, .i .i64 13]) else .tup [.sl [] 0, .i .i64 2]
end Go.Proofs.YtifefbhllfdmlaaGreatDoor
namespace Go.Proofs.YtifefbhllfdmlaaGreatDoor
open Go Go.Vo
open Nat (reduceAdd reduceSub reduceMul reduceLeDiff reduceLT reduceEqDiff)
open Int (reduceNeg)

end Go.Proofs.YtifefbhllfdmlaaGreatDoor
namespace Go.Proofs.YtifefbhllfdmlaaGreatDoor
open Go Go.Vo
open Nat (reduceAdd reduceSub reduceMul reduceLeDiff reduceLT reduceEqDiff)
open Int (reduceNeg)

end Go.Proofs.YtifefbhllfdmlaaGreatDoor
namespace Go.Proofs.YtifefbhllfdmlaaGreatDoor
open Go Go.Vo
open Nat (reduceAdd reduceSub reduceMul reduceLeDiff reduceLT reduceEqDiff)
open Int (reduceNeg)

def bBj (ps : Str → Str) (p : Str × Str) : Str × Str := (p.1, if p.2 = [] then [] else ps p.2)
def aMm (po ps : Str → Str) (o : LOp) : LOp := ⟨po o.name, o.args.map ps, ps o.sort, o.pieces.map (bBj ps), o.prec, o.assoc, o.strict⟩
end Go.Proofs.YtifefbhllfdmlaaGreatDoor
namespace Go.Proofs.YtifefbhllfdmlaaGreatDoor
open Go Go.Vo
open Nat (reduceAdd reduceSub reduceMul reduceLeDiff reduceLT reduceEqDiff)
open Int (reduceNeg)

def bBk (ps : Str → Str) (b : Str × Str) : Str × Str := (ps b.1, ps b.2)
def bBi (po ps : Str → Str) (s : cC) : cC := ⟨s.sorts.map ps, s.below.map (bBk ps), s.ops.map (aMm po ps), s.funs.map (aMm po ps), s.values.map ps⟩
end Go.Proofs.YtifefbhllfdmlaaGreatDoor
namespace Go.Proofs.YtifefbhllfdmlaaGreatDoor
open Go Go.Vo
open Nat (reduceAdd reduceSub reduceMul reduceLeDiff reduceLT reduceEqDiff)
open Int (reduceNeg)

def xM (s : cC) (a b : Str) : cC := bBi (fun x => bDe x a b) (bDh s a b) s
def bOj : cC := ⟨[], [], [], [], []⟩
def X5 (s : cC) (a b : Str) : AV := if cU s && cY a && cY b then (if cU (xM s a b) then .tup [.agg (aN (xM s a b)), .i .i64 0] else .tup [.agg (aN bOj), .i .i64 14]) else .tup [.agg (aN bOj), .i .i64 2]
theorem aJf {s : cC} : persL (aN s) = true := by
 simp only [aN, persL, sX, avb, avo, pers, gW, F8, dN]
theorem aIp {s : cC} {a b : Str} (h : (cU s && cY a && cY b) = true) (h2 : cU (xM s a b) = true) : X5 s a b = .tup [.agg (aN (xM s a b)), .i .i64 0] := by simp [X5, h, h2]
end Go.Proofs.YtifefbhllfdmlaaGreatDoor
namespace Go.Proofs.YtifefbhllfdmlaaGreatDoor
open Go Go.Vo
open Nat (reduceAdd reduceSub reduceMul reduceLeDiff reduceLT reduceEqDiff)
open Int (reduceNeg)

def uV : Str := [69, 120, 112]
def aSy : Str := [80, 103, 109]
def zS : Str := [73, 110, 116]
def aMr : Str := [70, 111, 111]
def aGn : Str := [112, 108, 117, 115]
def bJh : Str := [78, 111, 112, 101]
def aYn : LOp := ⟨aGn, [uV, uV], uV, [([], uV), ([43], []), ([], uV)], 5, 1, [1, 2]⟩
def iG : cC := ⟨[uV, aSy], [(zS, uV), (uV, aSy)], [aYn], [], [zS]⟩
def bLn : LOp := ⟨aGn, [aMr, aMr], aMr, [([], aMr), ([43], []), ([], aMr)], 5, 1, [1, 2]⟩
def bMd : cC := ⟨[aMr, aSy], [(zS, aMr), (aMr, aSy)], [bLn], [], [zS]⟩
theorem sF : cU iG = true := by decide +kernel
theorem aTj {s : cC} {xs : List Str} {b c : Bool} (h : cU s = true) (h2 : xs.all (existsA s) = true) (hb : b = c) : aDt s xs b = .tup [.b c, .i .i64 0] := by subst hb; simp [aDt, h, h2]
theorem bNy {s : cC} {xs : List Str} {b : Bool} (h : cU s = true) (h2 : xs.all (existsA s) = false) : aDt s xs b = .tup [.b false, .i .i64 13] := by simp [aDt, h, h2]
theorem a1 : aDt iG [zS, uV] (iN iG zS uV) = .tup [.b true, .i .i64 0] := aTj sF (by decide +kernel) (by decide +kernel)
theorem a2 : aDt iG [uV, zS] (iN iG uV zS) = .tup [.b false, .i .i64 0] := aTj sF (by decide +kernel) (by decide +kernel)
theorem a3 : aDt iG [uV] (isValue iG uV) = .tup [.b false, .i .i64 0] := aTj sF (by decide +kernel) (by decide +kernel)
theorem a4 : aDt iG [aSy, zS] (aFr iG aSy zS) = .tup [.b true, .i .i64 0] := aTj sF (by decide +kernel) (by decide +kernel)
theorem a5 : aDt iG [zS, bJh] (iN iG zS bJh) = .tup [.b false, .i .i64 13] := bNy sF (by decide +kernel)
theorem aIe {L M : List Str} (h : L.Perm M) (hM : M.Pairwise fun x y => x ≤ y) : aFa L = M := by
 rw [aId h]
 unfold aFa
 refine List.mergeSort_of_pairwise ?_
 simpa using hM
theorem l1 : aFu iG (iN iG zS) = [mT, uV, zS, aSy] := by
 unfold aFu
 have : (keysOf iG).filter (iN iG zS) = [mT, zS, uV, aSy] := by decide +kernel
 rw [this]
 exact aIe (by decide +kernel) (by decide +kernel)
theorem l2 : aFu iG (fun y => iN iG y uV) = [uV, zS] := by
 unfold aFu
 have : (keysOf iG).filter (fun y => iN iG y uV) = [zS, uV] := by decide +kernel
 rw [this]
 exact aIe (by decide +kernel) (by decide +kernel)
theorem aUv {s : cC} {x : Str} {l m : List Str} (h : cU s = true) (h2 : existsA s x = true) (hm : l = m) : aCe s x l = .tup [.own 1 (m.map .s) m.length, .i .i64 0] := by subst hm; simp [aCe, h, h2]
theorem b1 : aCe iG zS (aFu iG (iN iG zS)) = .tup [.own 1 [.s mT, .s uV, .s zS, .s aSy] 4, .i .i64 0] := aUv sF (by decide +kernel) l1
theorem b2 : aCe iG uV (aFu iG (fun y => iN iG y uV)) = .tup [.own 1 [.s uV, .s zS] 2, .i .i64 0] := aUv sF (by decide +kernel) l2
theorem f1 : aRl iG (zZ iG aGn) = .tup [aMj aYn, .i .i64 0] := by
 have : zZ iG aGn = some aYn := by decide +kernel
 rw [this]; simp only [aRl, if_pos sF]
theorem f2 : aRl iG (uP iG aGn) = .tup [elO default, .i .i64 4] := by
 have : uP iG aGn = none := by decide +kernel
 rw [this]; simp only [aRl, if_pos sF]
theorem r1 : X5 iG uV aMr = .tup [.agg (aN bMd), .i .i64 0] := by
 have h : xM iG uV aMr = bMd := by decide +kernel
 have h2 : cU bMd = true := by decide +kernel
 have h3 : (cU iG && cY uV && cY aMr) = true := by decide +kernel
 rw [← h, aIp h3 (h ▸ h2)]
end Go.Proofs.YtifefbhllfdmlaaGreatDoor
namespace Go.Proofs.YtifefbhllfdmlaaGreatDoor
open Go Go.Vo
open Nat (reduceAdd reduceSub reduceMul reduceLeDiff reduceLT reduceEqDiff)
open Int (reduceNeg)

end Go.Proofs.YtifefbhllfdmlaaGreatDoor
namespace Go.Proofs.YtifefbhllfdmlaaGreatDoor
open Go Go.Vo
open Nat (reduceAdd reduceSub reduceMul reduceLeDiff reduceLT reduceEqDiff)
open Int (reduceNeg)

def okR (p : Str × Str) : Bool := if p.2 = [] then rF p.1 else decide (p.1 = [])
def X9 (o : LOp) : Bool := if o.pieces = [] then decide (o.prec = 0) && decide (o.assoc = 0) else decide (o.pieces.length ≤ 20) && decide (lY o.pieces = o.args) && decide (0 ≤ o.prec) && decide (o.prec ≤ 20) && decide (0 ≤ o.assoc) && decide (o.assoc ≤ 2) && (decide (0 < o.prec) || decide (o.assoc = 0))
def oN (o : LOp) : Bool := o.pieces.all okR && X9 o
theorem bIh (o : LOp) (ho : OkO o): CT 168 [elO o] (.b (oN o)) := by
 refine aF mixed Tryz.func168 g0 ?_
 · skip
   have hp := ho.piecesT
   have hx := ho.args
   refine bP (fun (s : Nat × AV × List AObj) => [.k, .k, .j, .v (s.2.1), .k, .j, .k, .k, .k, .v (.i .i64 (s.1 : Nat)), .j, .j, .j, .j, .j, .j, .j, .j, .j, .j, .j, .j, .j, .j, .j, .j, .j, .j, .j, .j, .j, .j, .j, .j, .j, .j, .j, .k, .k, .k, .k, .k, .k, .k, .k, .k, .k, .k, .k, .k, .k, .k, .k, .k, .k, .k, .k, .k, .k, .k, .k, .k, .k, .k, .k, .k, .k, .k, .k, .k, .k, .k, .k, .k, .k, .k, .k, .k, .k, .k, .k, .k, .k, .k, .k, .k, .k, .k, .k]) (fun s => .box false (bI o) :: s.2.2) (fun s => s.1 ≤ o.pieces.length ∧ (∀ j, j < s.1 → okR (o.pieces.getD j ([], [])) = true) ∧ eP 1 1 s.2.2 s.2.1 ((lY (o.pieces.take s.1)).map .s) (lY (o.pieces.take s.1)).length) (fun s => o.pieces.length - s.1) ((0, .e0, [])) ⟨aG _, fun j h => by simp at h, kY⟩ rfl (by simp [eN]) ?_
   rintro ⟨k, out, g⟩ j ⟨hk, ha, ho2⟩
   dsimp only at hk ha ho2
   have hpl : k < o.pieces.length → (o.pieces.getD k ([], [])).1.length ≤ 140737488355328 := fun h => (ho.piecesS _ (bB h)).1
   have hal := qV (l := o.pieces.take k)
   rw [jV] at hal
   refine zg ?_
   (repeat' (first | refine gT ?_ ?_ | refine gF ?_ ?_ | refine gC ?_ ?_ | ((refine aW (bHx (o.pieces.getD k ([], [])).1 (hpl (by omega))) ?_ ?_; (focus (simp -implicitDefEqProofs (disch := omega) only [zdA, go_sem, ↓reduceIte, reduceAdd, reduceSub, reduceMul, reduceLeDiff, reduceLT, reduceEqDiff, reduceNeg, Nat.reduceBEq]; done))); simp -implicitDefEqProofs (disch := omega) only [go_sem, ↓reduceIte, reduceAdd, reduceSub, reduceMul, reduceLeDiff, reduceLT, reduceEqDiff, reduceNeg, Nat.reduceBEq]) | refine aV (by omega) ?_ | (intro hr; have hc := hr; (try simp only [zdz] at hc); simp -implicitDefEqProofs (disch := omega) only [hr, go_sem, ↓reduceIte, reduceAdd, reduceSub, reduceMul, reduceLeDiff, reduceLT, reduceEqDiff, reduceNeg, Nat.reduceBEq]; (try clear hr))))
   all_goals first | (exfalso; omega) | skip
   all_goals first | (refine aE ?_ (by rfl); rw [oN, eH (d := ([], [])) (j := k) (by omega) (by simp_all [okR, ← List.length_eq_zero_iff])]; rfl) | skip
   all_goals first | (refine ⟨(k + 1, out, _), ⟨by omega, aY ha (by simp_all [okR, ← List.length_eq_zero_iff]), ?_⟩, by simp; omega, rfl, rfl, by simp⟩; dsimp only; rw [lX (by omega), if_pos (List.eq_nil_of_length_eq_zero (by assumption)), List.append_nil]; exact ho2.more _) | skip
   · refine eV (pre := [_]) (news := [.s (o.pieces.getD k ([], [])).2]) (m := 1) ho2 rfl rfl bAs zo9 sz9 by9 rfl (by decide) (by simp -implicitDefEqProofs (disch := omega) only [go_sem, ↓reduceIte, reduceAdd, reduceSub, reduceMul, reduceLeDiff, reduceLT, reduceEqDiff, reduceNeg, Nat.reduceBEq]) (by simp -implicitDefEqProofs (disch := omega) only [go_sem, ↓reduceIte, reduceAdd, reduceSub, reduceMul, reduceLeDiff, reduceLT, reduceEqDiff, reduceNeg, Nat.reduceBEq]) ⟨by omega, by omega⟩ ?_
     intro out' g' ho' _
     refine zg ?_
     refine ⟨(k + 1, out', g'), ⟨by omega, aY ha (by simp_all [okR, ← List.length_eq_zero_iff]), ?_⟩, by simp; omega, rfl, by simp⟩
     dsimp only
     rw [lX (by omega), if_neg (by rw [← List.length_eq_zero_iff]; assumption), aT, aH]
     exact ho'
   · have he : o.pieces = [] := List.eq_nil_of_length_eq_zero (by omega)
     refine aE ?_ (by rfl)
     simp_all [oN, X9]
   · have he : o.pieces = [] := List.eq_nil_of_length_eq_zero (by omega)
     refine aE ?_ (by rfl)
     simp_all [oN, X9]
   · have hk2 : k = o.pieces.length := by omega
     have hne : o.pieces ≠ [] := fun e => by simp_all
     have hall : o.pieces.all okR = true := iV (d := ([], [])) (fun j hj => ha j (by omega))
     rw [aJ (by omega)] at ho2
     have hal := qV (l := o.pieces)
     have h20 := lF.1 hc
     clear ha hpl
     rcases ho2 with ⟨rfl, hnil, _⟩ | ⟨i0, rfl, hg, _⟩
     · have hnil : lY o.pieces = [] := by simpa using hnil
       (refine zs1 (bFk [] o.args (by simp) hx) ?_; repeat' first | exact trivial | refine zJ ?_ ?_ | refine zH fun hc => ?_)
       all_goals refine aE ?_ (by rfl)
       all_goals simp only [oN, hall, X9, if_neg hne, hnil, Bool.true_and]
       all_goals first | (simp_all; done) | (simp_all; omega)
     · (refine zx1 hg (bFk (lY o.pieces) o.args (by omega) hx) ?_; repeat' first | exact trivial | refine zJ ?_ ?_ | refine zH fun hc => ?_)
       all_goals refine aE ?_ (by rfl)
       all_goals simp only [oN, hall, X9, if_neg hne, Bool.true_and]
       all_goals first | (simp_all; done) | (simp_all; omega)
   · refine aE ?_ (by rfl)
     have hne : o.pieces ≠ [] := fun e => by simp_all
     have h20 : ¬ o.pieces.length ≤ 20 := fun h => hc (lF.2 h)
     simp only [oN, X9, if_neg hne, zf h20, Bool.false_and, Bool.and_false]
end Go.Proofs.YtifefbhllfdmlaaGreatDoor
namespace Go.Proofs.YtifefbhllfdmlaaGreatDoor
open Go Go.Vo
open Nat (reduceAdd reduceSub reduceMul reduceLeDiff reduceLT reduceEqDiff)
open Int (reduceNeg)

def iH (s : cC) (b : Str × Str) : Bool := gO s b.1 && !decide (b.1 = mT) && s.sorts.contains b.2
def nE (s : cC) (b : Str × Str) : Bool := !(climb s.below b.2).contains b.1
def tX (s : cC) : Bool := s.below.all (iH s) && decide s.below.Nodup && s.below.all (nE s) && decide (s.below.length ≤ 200)
theorem U0 {n : Nat} : ((n : Int) ≤ 200) ↔ n ≤ 200 := by omega
theorem rW {s : cC} {k : Nat} (hk : k < s.below.length) (h : iH s (s.below.getD k ([], [])) = false) : tX s = false := by
 rw [tX, eH hk h]; rfl
theorem bDv {a b : Str × Str} : (decide (a.1 = b.1) && (decide (a.2 = b.2) && true)) = decide (a = b) := by
 rw [cA]; simp [Prod.ext_iff]
theorem bNg (s : cC) (hs : OkS s) (hb : s.below.length ≤ 1000): CT 103 [.agg (aN s)] (.b (tX s)) := by
 refine aF mixed Tryz.func103 g0 ?_
 · skip
   have h1 := hs.sorts
   have h2 := hs.below
   refine eJ (fun (k : Nat) => [.k, .k, .j, .j, .j, .k, .j, .k, .k, .k, .k, .k, .v (.i .i64 k), .j, .j, .j, .j, .j, .j, .j, .j, .j, .j, .j, .j, .j, .j, .j, .j, .j, .j, .j, .j, .j, .j, .j, .j, .j, .j, .j, .j, .j, .j, .j, .j, .j, .j, .j, .j, .k, .k, .k, .k, .k, .k, .k, .k, .k, .k, .k, .k, .k, .k, .k, .k, .k, .k, .k]) (fun k => [.box false [.sl (s.sorts.map .s) s.sorts.length, .sl (s.below.flatMap bW) s.below.length, .sl (s.ops.flatMap bI) s.ops.length, .sl (s.funs.flatMap bI) s.funs.length, .sl (s.values.map .s) s.values.length]]) (fun k => k ≤ s.below.length ∧ ∀ j, j < k → (iH s (s.below.getD j ([], [])) = true ∧ (s.below.take j).contains (s.below.getD j ([], [])) = false)) (fun k => s.below.length - k) (0) _ ⟨aG _, fun j h => by omega⟩ rfl (by simp [eN]) ?_
   rintro k g j ⟨hk, ha⟩
   refine zg ?_
   (refine zs2 (aGh s (s.below.getD k ([], [])).1 h1) (wI s.sorts (s.below.getD k ([], [])).2 h1) ?_; repeat' first | exact trivial | refine zJ ?_ ?_ | refine zH fun hc => ?_)
   · refine aE ?_ (by rfl)
     rw [rW (k := k) (by omega) (by simp only [iH, *, Bool.and_false])]
   · have hone : iH s (s.below.getD k ([], [])) = true := by simp only [iH, mT, *, decide_false, Bool.not_false, dN]
     refine bP (fun (t : Nat × List AObj) => [.k, .k, .j, .k, .k, .k, .j, .k, .k, .k, .k, .k, .k, .k, .k, .k, .k, .k, .k, .k, .k, .k, .k, .k, .k, .k, .k, .k, .k, .k, .k, .k, .k, .k, .k, .k, .k, .k, .k, .k, .v (.i .i64 (t.1 : Nat)), .j, .j, .j, .j, .j, .j, .j, .k, .k, .k, .k, .k, .k, .k, .k, .k, .k, .k, .k, .k, .k, .k, .k, .k, .k, .k, .k]) (fun t => .box false [.sl (s.sorts.map .s) s.sorts.length, .sl (s.below.flatMap bW) s.below.length, .sl (s.ops.flatMap bI) s.ops.length, .sl (s.funs.flatMap bI) s.funs.length, .sl (s.values.map .s) s.values.length] :: (g ++ (.box false [.s (s.below.getD k ([], [])).1, .s (s.below.getD k ([], [])).2] :: t.2))) (fun t => t.1 ≤ k ∧ ∀ j, j < t.1 → (s.below.take k).getD j ([], []) ≠ s.below.getD k ([], [])) (fun t => k - t.1) ((0, [])) ⟨aG _, fun j h => by simp at h⟩ rfl (by simp [eN]) ?_
     rintro ⟨m, g2⟩ j ⟨hm, hb2⟩
     dsimp only at hm hb2
     have hlt : (s.below.take k).length = k := by simp; omega
     refine zh hlt ?_
     (repeat' (first | refine gT ?_ ?_ | refine gF ?_ ?_ | refine gC ?_ ?_ | refine aV (by omega) ?_ | (intro hr; have hc := hr; (try simp only [zdz] at hc); simp -implicitDefEqProofs (disch := omega) only [hr, hlt, go_sem, simprocAttr]; (try clear hr))))
     · refine aE ?_ (by rfl)
       rw [bDv] at hc
       have he := of_decide_eq_true hc
       have hm2 := bB (l := s.below.take k) (d := ([], [])) (k := m) (by omega)
       rw [← he] at hm2
       have hcon : (s.below.take k).contains (s.below.getD k ([], [])) = true := by simpa using hm2
       rw [tX, zf (fun hn => by rw [lS hn (by omega)] at hcon; cases hcon), Bool.and_false]; rfl
     · rw [bDv] at hc
       have he := of_decide_eq_false hc
       exact ⟨(m + 1, _), ⟨by dsimp only; omega, aY hb2 (fun e => he e.symm)⟩, by dsimp only; omega, rfl, by simp⟩
     · have hmk : m = k := by omega
       subst hmk
       have hno : (s.below.take m).contains (s.below.getD m ([], [])) = false := by
         rw [← L7]
         intro hcon
         have hm2 : s.below.getD m ([], []) ∈ s.below.take m := by simpa using hcon
         obtain ⟨i, hi, he⟩ := bL.1 hm2
         exact hb2 i (by omega) (by rw [aKs hi]; exact he)
       exact ⟨m + 1, _, ⟨by omega, aY ha ⟨hone, hno⟩⟩, by omega, rfl, by simp⟩
   · refine aE ?_ (by rfl)
     rw [rW (k := k) (by omega) (by simp only [iH, mT, *, decide_true, Bool.not_true, Bool.and_false, Bool.false_and])]
   · refine aE ?_ (by rfl)
     rw [rW (k := k) (by omega) (by simp only [iH, *, Bool.false_and])]
   · have hall : s.below.all (iH s) = true := iV (d := ([], [])) (fun j hj => (ha j (by omega)).1)
     have hnd : s.below.Nodup := tC (d := ([], [])) (fun j hj => (ha j (by omega)).2)
     clear ha
     refine eJ (fun (k : Nat) => [.k, .k, .j, .k, .k, .k, .k, .k, .j, .k, .k, .k, .k, .k, .k, .k, .k, .k, .k, .k, .k, .k, .k, .k, .k, .k, .k, .k, .k, .k, .k, .k, .k, .k, .k, .k, .k, .k, .k, .k, .k, .k, .k, .k, .k, .k, .k, .k, .k, .k, .k, .k, .v (.i .i64 k), .j, .j, .j, .j, .j, .j, .j, .j, .j, .j, .j, .k, .k, .k, .k]) (fun k => [.box false [.sl (s.sorts.map .s) s.sorts.length, .sl (s.below.flatMap bW) s.below.length, .sl (s.ops.flatMap bI) s.ops.length, .sl (s.funs.flatMap bI) s.funs.length, .sl (s.values.map .s) s.values.length]]) (fun k => k ≤ s.below.length ∧ ∀ j, j < k → nE s (s.below.getD j ([], [])) = true) (fun k => s.below.length - k) (0) _ ⟨aG _, fun j h => by omega⟩ rfl (by simp [eN]) ?_
     rintro k g j ⟨hk, ha⟩
     have hcl := tR s.below (s.below.getD k ([], [])).2
     refine zg ?_
     (refine zs2 (aWl s (s.below.getD k ([], [])).2) (wI (climb s.below (s.below.getD k ([], [])).2) (s.below.getD k ([], [])).1) ?_; repeat' first | exact trivial | refine zJ ?_ ?_ | refine zH fun hc => ?_)
     · refine aE ?_ (by rfl)
       rw [tX, eH (p := nE s) (d := ([], [])) (j := k) (by omega) (by simp only [nE, hc, Bool.not_true]), Bool.and_false]; rfl
     · exact ⟨k + 1, _, ⟨by omega, aY ha (by simp only [nE, hc, Bool.not_false])⟩, by omega, rfl, by simp⟩
     · refine aE ?_ (by rfl)
       have hup : s.below.all (nE s) = true := iV (d := ([], [])) (fun j hj => ha j (by omega))
       rw [tX, hall, hup, zt hnd]
       simp [U0]
end Go.Proofs.YtifefbhllfdmlaaGreatDoor
namespace Go.Proofs.YtifefbhllfdmlaaGreatDoor
open Go Go.Vo
open Nat (reduceAdd reduceSub reduceMul reduceLeDiff reduceLT reduceEqDiff)
open Int (reduceNeg)

def opR (s : cC) (o : LOp) : Bool := cY (mJ o.name) && !gL.contains o.name && aAp s o && s.sorts.contains o.sort && oN o && rM o
def aOc (s : cC) (o : LOp) : Bool := cY o.name && !gL.contains o.name && aAp s o && gO s o.sort && decide (o.pieces.length = 0) && decide (o.prec = 0) && decide (o.assoc = 0) && decide (o.strict.length = 0)
def kB (s : cC) : List Str := s.ops.map LOp.name ++ s.funs.map LOp.name
def aQf (s : cC) : Bool := s.ops.all (opR s) && s.funs.all (aOc s) && decide ((kB s).length ≤ 200) && decide (kB s).Nodup
theorem bDz {s : cC} {k : Nat} (hk : k < s.ops.length) (h : opR s (s.ops.getD k default) = false) : aQf s = false := by
 rw [aQf, eH hk h]; rfl
theorem bAc {s : cC} {k : Nat} (hk : k < s.funs.length) (h : aOc s (s.funs.getD k default) = false) : aQf s = false := by
 rw [aQf, eH (p := aOc s) hk h]; simp
theorem bNf (s : cC) (hs : OkS s) (hn : s.ops.length + s.funs.length ≤ 1000): CT 104 [.agg (aN s)] (.b (aQf s)) := by
 refine aF mixed Tryz.func104 g0 ?_
 · skip
   have h1 := hs.sorts
   refine bP (fun (t : Nat × AV × List AObj) => [.k, .k, .j, .v (t.2.1), .k, .j, .k, .k, .k, .k, .k, .v (.i .i64 (t.1 : Nat)), .j, .j, .j, .j, .j, .j, .j, .j, .j, .j, .j, .j, .j, .j, .j, .j, .j, .j, .j, .j, .j, .j, .j, .j, .j, .j, .j, .j, .j, .j, .j, .j, .j, .j, .j, .j, .j, .j, .j, .j, .j, .j, .k, .k, .k, .k, .k, .k, .k, .k, .k, .k, .k, .k, .k, .k, .k, .k, .k, .k, .k, .k, .k, .k, .k, .k, .k, .k, .k, .k, .k, .k, .k, .k, .k, .k, .k, .k, .k, .k, .k, .k, .k, .k, .k, .k, .k, .k, .k, .k, .k, .k, .k, .k, .k, .k, .k, .k, .k, .k, .k, .k, .k, .k, .k, .k]) (fun t => .box false [.sl (s.sorts.map .s) s.sorts.length, .sl (s.below.flatMap bW) s.below.length, .sl (s.ops.flatMap bI) s.ops.length, .sl (s.funs.flatMap bI) s.funs.length, .sl (s.values.map .s) s.values.length] :: t.2.2) (fun t => t.1 ≤ s.ops.length ∧ (∀ j, j < t.1 → opR s (s.ops.getD j default) = true) ∧ eP 1 1 t.2.2 t.2.1 (((s.ops.take t.1).map LOp.name).map .s) t.1) (fun t => s.ops.length - t.1) ((0, .e0, [])) ⟨aG _, fun j h => by simp at h, kY⟩ rfl (by simp [eN]) ?_
   rintro ⟨k, out, g⟩ j ⟨hk, ha, ho⟩
   dsimp only at hk ha ho
   have o1 : k < s.ops.length → OkO (s.ops.getD k default) := fun h => hs.opsO _ (bB h)
   refine zg ?_
   (refine zs0 ?_; repeat' first | exact trivial | refine zJ ?_ ?_ | refine zH fun hc => ?_)
   · refine eV (pre := [.box false [.sl (s.sorts.map .s) s.sorts.length, .sl (s.below.flatMap bW) s.below.length, .sl (s.ops.flatMap bI) s.ops.length, .sl (s.funs.flatMap bI) s.funs.length, .sl (s.values.map .s) s.values.length]]) (g := g ++ [.box false (bI (s.ops.getD k default))]) (more := [.arr false 1 ([.s (s.ops.getD k default).name])]) (news := [.s (s.ops.getD k default).name]) (m := 1) ((ho).more _) rfl (by simp -implicitDefEqProofs (disch := omega) only [go_sem, ↓reduceIte, reduceAdd, reduceSub, reduceMul, reduceLeDiff, reduceLT, reduceEqDiff, reduceNeg, Nat.reduceBEq]) bAs zo9 sz9 by9 rfl (by decide) (by simp -implicitDefEqProofs (disch := omega) only [go_sem, ↓reduceIte, reduceAdd, reduceSub, reduceMul, reduceLeDiff, reduceLT, reduceEqDiff, reduceNeg, Nat.reduceBEq]) (by simp -implicitDefEqProofs (disch := omega) only [go_sem, ↓reduceIte, reduceAdd, reduceSub, reduceMul, reduceLeDiff, reduceLT, reduceEqDiff, reduceNeg, Nat.reduceBEq]) ⟨by omega, by omega⟩ ?_
     intro out' g' ho' hkeep
     have hbox := hkeep g.length (.box false (bI (s.ops.getD k default))) (by rw [H1]; rfl) (fun c => nofun)
     clear hkeep
     have ho1 := o1 (by omega)
     refine zh hbox ?_
     (repeat' (first | refine gT ?_ ?_ | refine gF ?_ ?_ | refine gC ?_ ?_ | ((first | (refine aW (aMe (s.ops.getD k default).name ho1.name) ?_ ?_; (focus (simp -implicitDefEqProofs (disch := omega) only [hbox, zdA, go_sem, ↓reduceIte, reduceAdd, reduceSub, reduceMul, reduceLeDiff, reduceLT, reduceEqDiff, reduceNeg, Nat.reduceBEq]; done))) | (refine aW (bAw (s.ops.getD k default).name) ?_ ?_; (focus (simp -implicitDefEqProofs (disch := omega) only [hbox, zdA, go_sem, ↓reduceIte, reduceAdd, reduceSub, reduceMul, reduceLeDiff, reduceLT, reduceEqDiff, reduceNeg, Nat.reduceBEq]; done))) | (refine aW (aWk s (s.ops.getD k default) h1 ho1.args) ?_ ?_; (focus (simp -implicitDefEqProofs (disch := omega) only [hbox, zdA, go_sem, ↓reduceIte, reduceAdd, reduceSub, reduceMul, reduceLeDiff, reduceLT, reduceEqDiff, reduceNeg, Nat.reduceBEq]; done))) | (refine aW (wI s.sorts (s.ops.getD k default).sort h1) ?_ ?_; (focus (simp -implicitDefEqProofs (disch := omega) only [hbox, zdA, go_sem, ↓reduceIte, reduceAdd, reduceSub, reduceMul, reduceLeDiff, reduceLT, reduceEqDiff, reduceNeg, Nat.reduceBEq]; done))) | (refine aW (bIh (s.ops.getD k default) ho1) ?_ ?_; (focus (simp -implicitDefEqProofs (disch := omega) only [hbox, zdA, go_sem, ↓reduceIte, reduceAdd, reduceSub, reduceMul, reduceLeDiff, reduceLT, reduceEqDiff, reduceNeg, Nat.reduceBEq]; done))) | (refine aW (bIg (s.ops.getD k default) ho1) ?_ ?_; (focus (simp -implicitDefEqProofs (disch := omega) only [hbox, zdA, go_sem, ↓reduceIte, reduceAdd, reduceSub, reduceMul, reduceLeDiff, reduceLT, reduceEqDiff, reduceNeg, Nat.reduceBEq]; done)))); simp -implicitDefEqProofs (disch := omega) only [hbox, go_sem, ↓reduceIte, reduceAdd, reduceSub, reduceMul, reduceLeDiff, reduceLT, reduceEqDiff, reduceNeg, Nat.reduceBEq]) | refine aV (by omega) ?_ | (intro hr; have hc := hr; (try simp only [zdz] at hc); simp -implicitDefEqProofs (disch := omega) only [hr, hbox, go_sem, ↓reduceIte, reduceAdd, reduceSub, reduceMul, reduceLeDiff, reduceLT, reduceEqDiff, reduceNeg, Nat.reduceBEq]; (try clear hr))))
     all_goals first | (refine aE ?_ (by rfl); rw [bDz (k := k) (by omega) (by simp only [opR, *, decide_true, decide_false, Bool.and_false, Bool.false_and, Bool.and_true, Bool.true_and, Bool.not_true, Bool.not_false])]; done) | skip
     refine ⟨(k + 1, out', g'), ⟨by dsimp only; omega, aY ha (by simp only [opR, *, decide_true, decide_false, Bool.and_false, Bool.false_and, Bool.and_true, Bool.true_and, Bool.not_true, Bool.not_false]), ?_⟩, by dsimp only; omega, rfl, rfl, by simp⟩
     dsimp only
     rw [eU (d := default) (by omega), aT, aT]
     exact ho'
   · have hk2 : k = s.ops.length := by omega
     have hall : s.ops.all (opR s) = true := iV (d := default) (fun j hj => ha j (by omega))
     rw [hk2, iF] at ho
     clear ha hk o1
     refine bP (fun (t : Nat × AV × List AObj) => [.k, .k, .j, .v (t.2.1), .k, .k, .k, .j, .k, .k, .k, .k, .k, .k, .k, .k, .k, .k, .k, .k, .k, .k, .k, .k, .k, .k, .k, .k, .k, .k, .k, .k, .k, .k, .k, .k, .k, .k, .k, .k, .k, .k, .k, .k, .k, .k, .k, .k, .k, .k, .k, .k, .k, .k, .k, .k, .k, .v (.i .i64 (t.1 : Nat)), .j, .j, .j, .j, .j, .j, .j, .j, .j, .j, .j, .j, .j, .j, .j, .j, .j, .j, .j, .j, .j, .j, .j, .j, .j, .j, .j, .j, .j, .j, .j, .j, .j, .j, .j, .j, .j, .j, .j, .j, .j, .j, .j, .j, .j, .j, .j, .j, .j, .j, .j, .j, .j, .k, .k, .k, .k, .k, .k, .k]) (fun t => .box false [.sl (s.sorts.map .s) s.sorts.length, .sl (s.below.flatMap bW) s.below.length, .sl (s.ops.flatMap bI) s.ops.length, .sl (s.funs.flatMap bI) s.funs.length, .sl (s.values.map .s) s.values.length] :: t.2.2) (fun t => t.1 ≤ s.funs.length ∧ (∀ j, j < t.1 → aOc s (s.funs.getD j default) = true) ∧ eP 1 1 t.2.2 t.2.1 ((s.ops.map LOp.name).map .s ++ ((s.funs.take t.1).map LOp.name).map .s) (s.ops.length + t.1)) (fun t => s.funs.length - t.1) ((0, out, g)) ⟨aG _, fun j h => by simp at h, by simpa using ho⟩ rfl (by simp [eN]) ?_
     clear ho hk2
     rintro ⟨k, out, g⟩ j ⟨hk, ha, ho⟩
     dsimp only at hk ha ho
     have o1 : k < s.funs.length → OkO (s.funs.getD k default) := fun h => hs.funsO _ (bB h)
     refine zg ?_
     (refine zs0 ?_; repeat' first | exact trivial | refine zJ ?_ ?_ | refine zH fun hc => ?_)
     · refine eV (pre := [.box false [.sl (s.sorts.map .s) s.sorts.length, .sl (s.below.flatMap bW) s.below.length, .sl (s.ops.flatMap bI) s.ops.length, .sl (s.funs.flatMap bI) s.funs.length, .sl (s.values.map .s) s.values.length]]) (g := g ++ [.box false (bI (s.funs.getD k default))]) (more := [.arr false 1 ([.s (s.funs.getD k default).name])]) (news := [.s (s.funs.getD k default).name]) (m := 1) ((ho).more _) rfl (by simp -implicitDefEqProofs (disch := omega) only [go_sem, ↓reduceIte, reduceAdd, reduceSub, reduceMul, reduceLeDiff, reduceLT, reduceEqDiff, reduceNeg, Nat.reduceBEq]) bAs zo9 sz9 by9 rfl (by decide) (by simp -implicitDefEqProofs (disch := omega) only [go_sem, ↓reduceIte, reduceAdd, reduceSub, reduceMul, reduceLeDiff, reduceLT, reduceEqDiff, reduceNeg, Nat.reduceBEq]) (by simp -implicitDefEqProofs (disch := omega) only [go_sem, ↓reduceIte, reduceAdd, reduceSub, reduceMul, reduceLeDiff, reduceLT, reduceEqDiff, reduceNeg, Nat.reduceBEq]) ⟨by omega, by omega⟩ ?_
       intro out' g' ho' hkeep
       have hbox := hkeep g.length (.box false (bI (s.funs.getD k default))) (by rw [H1]; rfl) (fun c => nofun)
       clear hkeep
       have ho1 := o1 (by omega)
       refine zh hbox ?_
       (refine zx4 hbox (I3 (s.funs.getD k default).name ho1.name) (bAw (s.funs.getD k default).name) (aWk s (s.funs.getD k default) h1 ho1.args) (aGh s (s.funs.getD k default).sort h1) ?_; repeat' first | exact trivial | refine zJ ?_ ?_ | refine zH fun hc => ?_)
       all_goals try simp only [aMn, Nat.pos_iff_ne_zero, B0] at *
       all_goals first | (refine aE ?_ (by rfl); rw [bAc (k := k) (by omega) (by simp only [aOc, *, decide_true, decide_false, Bool.and_false, Bool.false_and, Bool.and_true, Bool.true_and, Bool.not_true, Bool.not_false])]; done) | skip
       refine ⟨(k + 1, out', g'), ⟨by dsimp only; omega, aY ha (by simp only [aOc, *, decide_true, decide_false, Bool.and_false, Bool.false_and, Bool.and_true, Bool.true_and, Bool.not_true, Bool.not_false]), ?_⟩, by dsimp only; omega, rfl, rfl, by simp⟩
       dsimp only
       rw [eU (d := default) (by omega), aT, aT, ← bT]
       exact ho'
     · have hk2 : k = s.funs.length := by omega
       have hf : s.funs.all (aOc s) = true := iV (d := default) (fun j hj => ha j (by omega))
       rw [hk2, iF] at ho
       clear ha hk o1 hc hk2
       have hnl : (kB s).length = s.ops.length + s.funs.length := by simp [kB]
       have hop : aQf s = (decide ((kB s).length ≤ 200) && decide (kB s).Nodup) := by rw [aQf, hall, hf]; rfl
       have hcell : (s.ops.map LOp.name).map AV.s ++ (s.funs.map LOp.name).map AV.s = (kB s).map .s := by simp [kB]
       rw [hcell, ← hnl] at ho
       rcases ho with ⟨rfl, hnil, _⟩ | ⟨i0, rfl, hg, _⟩
       · have hnil : kB s = [] := by simpa using hnil
         simp -implicitDefEqProofs (disch := omega) only [go_sem, ↓reduceIte, reduceAdd, reduceSub, reduceMul, reduceLeDiff, reduceLT, reduceEqDiff, reduceNeg, Nat.reduceBEq]
         (repeat' (first | refine gT ?_ ?_ | refine gF ?_ ?_ | refine gC ?_ ?_ | ((refine aW (aRw [] (by simp)) ?_ ?_; (focus (simp -implicitDefEqProofs (disch := omega) only [zdA, go_sem, ↓reduceIte, reduceAdd, reduceSub, reduceMul, reduceLeDiff, reduceLT, reduceEqDiff, reduceNeg, Nat.reduceBEq]; done))); simp -implicitDefEqProofs (disch := omega) only [go_sem, ↓reduceIte, reduceAdd, reduceSub, reduceMul, reduceLeDiff, reduceLT, reduceEqDiff, reduceNeg, Nat.reduceBEq]) | refine aV (by omega) ?_ | (intro hr; have hc := hr; (try simp only [zdz] at hc); simp -implicitDefEqProofs (disch := omega) only [hr, go_sem, ↓reduceIte, reduceAdd, reduceSub, reduceMul, reduceLeDiff, reduceLT, reduceEqDiff, reduceNeg, Nat.reduceBEq]; (try clear hr))))
         all_goals refine aE ?_ (by rfl)
         all_goals first | (exfalso; omega) | (rw [hop, hnil]; rfl)
       · refine zh hg ?_
         (refine zx1 hg (aRw (kB s)) ?_; repeat' first | exact trivial | refine zJ ?_ ?_ | refine zH fun hc => ?_)
         all_goals refine aE ?_ (by rfl)
         all_goals simp only [U0] at hc
         all_goals rw [hop]
         all_goals first | rw [zt hc, Bool.true_and] | rw [zf hc, Bool.false_and]
end Go.Proofs.YtifefbhllfdmlaaGreatDoor
namespace Go.Proofs.YtifefbhllfdmlaaGreatDoor
open Go Go.Vo
open Nat (reduceAdd reduceSub reduceMul reduceLeDiff reduceLT reduceEqDiff)
open Int (reduceNeg)

def M7 (s : cC) : Bool := decide (s.sorts.length ≤ 40) && decide (s.below.length ≤ 200) && decide (s.ops.length + s.funs.length ≤ 200) && vJ s && tX s && aQf s && s.values.all (gO s) && decide s.values.Nodup
theorem exists_eq (s : cC) (x : Str) : gO s x = existsA s x := by
 have := U5 x
 unfold gO existsA keysOf
 rw [cA]
 have h2 := cA.1 this
 simp only [eK] at h2
 simp [h2]
theorem O9 {t : Str} : lP t = rF t := by
 unfold lP rF tH
 have hc : (fun c : UInt8 => kX c.toNat) = fun c => kL c.toNat := by
   funext c
   simp only [kX, kL, part, Bool.or_assoc]
 rw [hc]
 have hn : cY t = true → 1 ≤ t.length := by
   intro h
   cases t with
   | nil => revert h; decide
   | cons a l => simp
 cases h : cY t
 · simp
 · have := hn h
   simp [this]
   by_cases h2 : t.length ≤ 20 <;> simp [h2]
theorem aPz (p : Str × Str) : nS p = okR p := by
 unfold nS okR
 rw [O9]
 have h0 : rF [] = false := by decide
 by_cases h2 : p.2 = []
 · simp [h2]
 · by_cases h1 : p.1 = []
   · simp [h2, h1, h0]
   · simp [h2, h1]
theorem bLo (s : cC) (o : LOp) : aKn s o = opR s o := by
 have hp : (fun p => nS p) = okR := by funext p; exact aPz p
 have hx : s.sorts.contains o.sort = s.sorts.contains o.sort := rfl
 have he : o.args.all (existsA s) = o.args.all (gO s) := by congr 1; funext x; exact (exists_eq s x).symm
 unfold aKn opR opHead aAp oN rM X9 aJd aAn oH
 rw [show nS = okR from hp, he]
 rw [cA]
 by_cases hz : o.pieces = []
 · simp only [hz, List.all_nil, bD, eM, if_true, aB, decide_eq_true_eq, bK, bQ]
   constructor
   · rintro h; simp_all; omega
   · rintro h; simp_all
 · have : o.pieces.isEmpty = false := by simpa using hz
   have hl : 0 < o.pieces.length := List.length_pos_iff.2 hz
   simp only [hz, this, hl, if_false, aB, decide_eq_true_eq, bK, bQ, aP, false_or, true_or, and_true]
   constructor
   · rintro h; simp_all
   · rintro h; simp_all
theorem bEt (s : cC) (o : LOp) : G7 s o = aOc s o := by
 have he : o.args.all (existsA s) = o.args.all (gO s) := by congr 1; funext x; exact (exists_eq s x).symm
 unfold G7 aOc aAp
 rw [he, exists_eq]
 rw [cA]
 simp only [aB, decide_eq_true_eq, bQ]
 constructor
 · rintro h; simp_all
 · rintro h; simp_all
theorem aOy (s : cC) : vJ s = (s.sorts.all vY && decide (s.sorts.length ≤ 40) && decide s.sorts.Nodup) := by
 unfold vJ
 have : vX = vY := by funext x; simp only [vY, vX, U5]
 rw [this]
theorem aNa (s : cC) (b : Str × Str) : (iH s b && nE s b) = oP s b := by
 unfold iH nE oP V0
 rw [exists_eq]
 by_cases h : s.sorts.contains b.2 = true
 · have h2 : existsA s b.2 = true := by
     rw [← exists_eq]; unfold gO; rw [h, cR]
   rw [h, h2, if_pos rfl]
   rw [cA]; simp only [aB, bQ, decide_eq_true_eq, decide_eq_false_iff_not]; exact ⟨fun ⟨⟨⟨a, b⟩, c⟩, d⟩ => ⟨⟨⟨b, a⟩, c⟩, d⟩, fun ⟨⟨⟨a, b⟩, c⟩, d⟩ => ⟨⟨⟨b, a⟩, c⟩, d⟩⟩
 · have h := fF.2 h
   rw [h]; simp
theorem bCa {α : Type} {p q : α → Bool} {l : List α} : (l.all p && l.all q) = l.all fun x => p x && q x := by
 induction l with
 | nil => rfl
 | cons x l ih =>
   simp only [gR, ← ih]
   cases p x <;> cases q x <;> cases l.all p <;> cases l.all q <;> rfl
theorem aTe (s : cC) : tX s = (s.below.all (oP s) && decide s.below.Nodup && decide (s.below.length ≤ 200)) := by
 have h : s.below.all (oP s) = (s.below.all (iH s) && s.below.all (nE s)) := by
   rw [bCa]; congr 1; funext b; exact (aNa s b).symm
 rw [h, tX]
 cases s.below.all (iH s) <;> cases s.below.all (nE s) <;> simp
theorem aOk (s : cC) : M7 s = cU s := by
 have h1 : s.ops.all (aKn s) = s.ops.all (opR s) := by congr 1; funext x; exact bLo s x
 have h2 : s.funs.all (G7 s) = s.funs.all (aOc s) := by congr 1; funext x; exact bEt s x
 have h3 : s.values.all (existsA s) = s.values.all (gO s) := by congr 1; funext x; exact (exists_eq s x).symm
 have h4 : (kB s).length = s.ops.length + s.funs.length := by simp [kB]
 have h5 : mY s = kB s := rfl
 unfold M7 cU lN mK nK
 rw [aOy, aTe, aQf, h1, h2, h3, h4, h5]
 rw [cA]
 simp only [aB]
 constructor
 · rintro ⟨⟨⟨⟨⟨⟨⟨a, b⟩, c⟩, ⟨d, e⟩, f⟩, ⟨g, h⟩, i⟩, ⟨⟨j, k⟩, l⟩, m⟩, n⟩, o⟩
   exact ⟨⟨⟨⟨⟨⟨a, b⟩, c⟩, h⟩, o⟩, ⟨f, d⟩, m⟩, ⟨⟨g, n⟩, j⟩, k⟩
 · rintro ⟨⟨⟨⟨⟨⟨a, b⟩, c⟩, h⟩, o⟩, ⟨f, d⟩, m⟩, ⟨⟨g, n⟩, j⟩, k⟩
   exact ⟨⟨⟨⟨⟨⟨⟨a, b⟩, c⟩, ⟨d, a⟩, f⟩, ⟨g, h⟩, b⟩, ⟨⟨j, k⟩, c⟩, m⟩, n⟩, o⟩
theorem bSa {n : Nat} : (40 < (n : Int)) ↔ ¬ n ≤ 40 := by omega
theorem bMc {n : Nat} : (200 < (n : Int)) ↔ ¬ n ≤ 200 := by omega
theorem bEr {n m : Nat} : (200 < (n : Int) + m) ↔ ¬ n + m ≤ 200 := by omega
theorem aMc (s : cC) (hm : Small s) (hs : OkS s): CT 52 [.agg (aN s)] (.b (cU s)) := by
 refine aF mixed Tryz.func52 g0 ?_
 · skip
   have h1 := hm.sorts
   have h2 := hm.below
   have h3 := hm.ops
   have h4 := hm.funs
   have h5 := hm.values
   rw [← aOk]
   (refine zs3 (bNh s hs) (bNg s hs h2) (bNf s hs) ?_; repeat' first | exact trivial | refine zJ ?_ ?_ | refine zH fun hc => ?_)
   all_goals try simp only [bSa, bMc, bEr, B0] at *
   all_goals first | (refine aE ?_ (by rfl); simp only [M7, *, decide_true, decide_false, Bool.and_false, Bool.false_and, Bool.and_true, Bool.true_and, Bool.not_true, Bool.not_false]; done) | skip
   refine bP (fun (k : Nat) => [.k, .k, .j, .k, .j, .k, .k, .k, .k, .k, .k, .k, .k, .k, .k, .k, .k, .k, .k, .k, .k, .k, .k, .k, .k, .k, .k, .k, .k, .k, .k, .k, .k, .k, .k, .k, .k, .k, .k, .k, .k, .k, .k, .v (.i .i64 k), .j, .j, .j, .j, .j, .j, .j, .j, .k, .k, .k]) (fun k => [.box false [.sl (s.sorts.map .s) s.sorts.length, .sl (s.below.flatMap bW) s.below.length, .sl (s.ops.flatMap bI) s.ops.length, .sl (s.funs.flatMap bI) s.funs.length, .sl (s.values.map .s) s.values.length]]) (fun k => k ≤ s.values.length ∧ ∀ j, j < k → gO s (s.values.getD j []) = true) (fun k => s.values.length - k) (0) ⟨aG _, fun j h => by omega⟩ rfl (by simp [eN]) ?_
   rintro k j ⟨hk, ha⟩
   refine zg ?_
   (refine zs2 (aGh s (s.values.getD k [])) (aRw s.values) ?_; repeat' first | exact trivial | refine zJ ?_ ?_ | refine zH fun hc => ?_)
   · refine aE ?_ (by rfl)
     have hno : s.values.all (gO s) = false := eH (d := []) (j := k) (by omega) hc
     rw [M7, hno]; simp
   · exact ⟨k + 1, ⟨by omega, aY ha hc⟩, by omega, by simp⟩
   · refine aE ?_ (by rfl)
     have hall : s.values.all (gO s) = true := iV (d := []) (fun j hj => ha j (by omega))
     simp only [M7, *, decide_true, decide_false, Bool.and_false, Bool.false_and, Bool.and_true, Bool.true_and, Bool.not_true, Bool.not_false]
end Go.Proofs.YtifefbhllfdmlaaGreatDoor
namespace Go.Proofs.YtifefbhllfdmlaaGreatDoor
open Go Go.Vo
open Nat (reduceAdd reduceSub reduceMul reduceLeDiff reduceLT reduceEqDiff)
open Int (reduceNeg)

theorem S5 {s : cC} (h : few s = true) : Small s := by
 simp only [few, aB, decide_eq_true_eq] at h
 exact ⟨by omega, by omega, by omega, by omega, by omega⟩
end Go.Proofs.YtifefbhllfdmlaaGreatDoor
namespace Go.Proofs.YtifefbhllfdmlaaGreatDoor
open Go Go.Vo
open Nat (reduceAdd reduceSub reduceMul reduceLeDiff reduceLT reduceEqDiff)
open Int (reduceNeg)

def oI (s : cC) (xs : List Str) : Int := if cU s then (if xs.all (existsA s) then 0 else 13) else 2
theorem bDg {s : cC} {xs : List Str} (h : cU s = false) : oI s xs = 2 := by simp [oI, h]
theorem bDf {s : cC} {xs : List Str} (h : cU s = true) (h2 : xs.all (existsA s) = false) : oI s xs = 13 := by simp only [oI, h, h2, if_true, aP, if_false]
theorem aUi {s : cC} {xs : List Str} (h : cU s = true) (h2 : xs.all (existsA s) = true) : oI s xs = 0 := by simp only [oI, h, h2, if_true]
theorem aNe {s : cC} {xs : List Str} {b : Bool} : aDt s xs b = .tup [.b (decide (oI s xs = 0) && b), .i .i64 (oI s xs)] := by
 unfold aDt oI
 split
 · split <;> simp
 · simp
theorem bFj (s : cC) (xs : List Str) (hm : Small s) (hs : OkS s) (hx : xs.length ≤ 1000): CT 214 [.agg (aN s), avs xs] (.i .i64 (oI s xs)) := by
 refine bM mixed Tryz.func214 g0 ?_
 · simp -implicitDefEqProofs (disch := omega) only [Tryz.f214, go_sem, List.replicate, simprocAttr, avs]
   have h1 := hs.sorts
   (refine zs1 (aMc s hm hs) ?_; repeat' first | exact trivial | refine zJ ?_ ?_ | refine zH fun hc => ?_)
   · exact aE (by rw [bDg hc]) rfl
   · refine bP (fun (k : Nat) => [.k, .k, .k, .k, .j, .k, .j, .k, .k, .k, .k, .k, .v (.i .i64 k), .j, .j, .j, .j, .j, .j, .j, .j]) (fun k => [.box false [.sl (s.sorts.map .s) s.sorts.length, .sl (s.below.flatMap bW) s.below.length, .sl (s.ops.flatMap bI) s.ops.length, .sl (s.funs.flatMap bI) s.funs.length, .sl (s.values.map .s) s.values.length]]) (fun k => k ≤ xs.length ∧ ∀ j, j < k → existsA s (xs.getD j []) = true) (fun k => xs.length - k) (0) ⟨aG _, fun j h => by omega⟩ rfl (by simp [eN]) ?_
     rintro k j ⟨hk, ha⟩
     have hv := hc
     clear hc
     refine zg ?_
     (refine zs1 (aGh s (xs.getD k []) h1) ?_; repeat' first | exact trivial | refine zJ ?_ ?_ | refine zH fun hc => ?_)
     · rw [exists_eq] at hc
       exact aE (by rw [bDf hv (eH (d := []) (j := k) (by omega) hc)]) rfl
     · rw [exists_eq] at hc
       exact ⟨k + 1, ⟨by omega, aY ha hc⟩, by omega, by simp⟩
     · exact aE (by rw [aUi hv (iV (d := []) (fun j hj => ha j (by omega)))]) rfl
def pC (s : cC) (x y : Str) : Bool := decide (y = mT) || (climb s.below x).contains y
theorem wL {s : cC} {x y : Str} (h : existsA s x = true) : pC s x y = iN s x y := by simp only [pC, iN, V0, h, if_true]
theorem aRu (s : cC) (x y : Str) (hm : Small s): CT 216 [.agg (aN s), .s x, .s y] (.b (pC s x y)) := by
 refine aF mixed Tryz.func216 g0 ?_
 · skip
   have hl := tR s.below x
   have h2 := hm.below
   (refine zs2 (aWl s x) (wI (climb s.below x) y) ?_; repeat' first | exact trivial | refine zJ ?_ ?_ | refine zH fun hc => ?_)
   all_goals (refine aE ?_ (by rfl))
   all_goals simp_all [pC, mT]
theorem bNc (s : cC) (x y : Str) (hm : Small s): CT 229 [.agg (aN s), .s x, .s y] (.b (pC s x y || pC s y x)) := by
 refine aF mixed Tryz.func229 g0 ?_
 · skip
   (refine zs2 (aRu s x y hm) (aRu s y x hm) ?_; repeat' first | exact trivial | refine zJ ?_ ?_ | refine zH fun hc => ?_)
   all_goals (refine aE ?_ (by rfl))
   all_goals simp_all
theorem aXp {s : cC} {xs : List Str} (h : oI s xs = 0) : cU s = true ∧ xs.all (existsA s) = true := by
 unfold oI at h
 split at h
 · rename_i hv
   split at h
   · rename_i hx; exact ⟨hv, hx⟩
   · cases h
 · cases h
theorem bJq {s : cC} {xs : List Str} {b : Bool} (h : ¬ oI s xs = 0) : aDt s xs b = .tup [.b false, .i .i64 (oI s xs)] := by rw [aNe, zf h]; rfl
theorem bJr {s : cC} {xs : List Str} {b c : Bool} (h : oI s xs = 0) (hb : cU s = true → xs.all (existsA s) = true → b = c) : aDt s xs c = .tup [.b b, .i .i64 0] := by
 obtain ⟨h1, h2⟩ := aXp h
 rw [aNe, h, hb h1 h2]; rfl
theorem bNo (s : cC) (x : Str) (hm : Small s) (hs : OkS s): CT 172 [.agg (aN s), .s x] (aDt s [] (existsA s x)) := by
 refine aF mixed Tryz.func172 g0 ?_
 · skip
   have h1 := hs.sorts
   by_cases h0 : oI s [] = 0
   · rw [bJr h0 (b := gO s x) (fun _ h => exists_eq s x)]
     (refine zx2 h0 (bFj s [] hm hs (by simp)) (aGh s x h1) ?_; repeat' first | exact trivial | refine zJ ?_ ?_ | refine zH fun hc => ?_)
     exact aE rfl rfl
   · rw [bJq h0]
     (refine zx1 h0 (bFj s [] hm hs (by simp)) ?_; repeat' first | exact trivial | refine zJ ?_ ?_ | refine zH fun hc => ?_)
     exact aE rfl rfl
theorem bSf (s : cC) (x : Str) (hm : Small s) (hs : OkS s) : CT 172 [.agg (aN s), .s x] (.tup [.b (decide (oI s [] = 0) && existsA s x), .i .i64 (oI s [])]) := aNe ▸ bNo s x hm hs
end Go.Proofs.YtifefbhllfdmlaaGreatDoor
namespace Go.Proofs.YtifefbhllfdmlaaGreatDoor
open Go Go.Vo
open Nat (reduceAdd reduceSub reduceMul reduceLeDiff reduceLT reduceEqDiff)
open Int (reduceNeg)

theorem bAi {α : Type} {l : List α} {p : α → Bool} {k : Nat} {d : α} (hk : k < l.length) (h : p (l.getD k d) = true) (hb : ∀ j, j < k → (!p (l.getD j d)) = true) : l.find? p = some (l.getD k d) := by
 rw [List.find?_eq_some_iff_getElem]
 refine ⟨h, k, hk, by simp [List.getD, hk], fun j hj => ?_⟩
 have := hb j hj
 simpa [List.getD, show j < l.length by omega] using this
theorem bAh {α : Type} {l : List α} {p : α → Bool} {d : α} (hb : ∀ j, j < l.length → (!p (l.getD j d)) = true) : l.find? p = none := by
 rw [List.find?_eq_none]
 intro x hx
 obtain ⟨j, hj, rfl⟩ := bL.1 hx
 have := hb j hj
 simpa [List.getD, hj] using this
theorem S1 {h : List AObj} {b : Bool} : Fin h (.tup [.agg [.s [], .e0, .s [], .e0, .i .i64 0, .i .i64 0, .e0], .b b]) (.tup [elO default, .b b]) :=
 .inr ⟨⟨⟨rfl, rfl, rfl, rfl, rfl, rfl, rfl, trivial⟩, rfl, trivial⟩, by simp [elO, bI, bS, finIdsL, avs, avb, avi], by simp [elO, bI, bS, finIdsL, avs, avb, avi]⟩
def fS (r : Option LOp) : AV := match r with
 | some o => .tup [elO o, .b true]
 | none => .tup [elO default, .b false]
theorem aDl (l : List LOp) (x : Str) (hl : l.length ≤ 140737488355328): CT 191 [avo l, .s x] (fS (l.find? fun o => decide (o.name = x))) := by
 refine bM mixed Tryz.func191 g0 ?_
 · simp -implicitDefEqProofs (disch := omega) only [Tryz.f191, go_sem, List.replicate, simprocAttr, avo]
   refine eJ (fun (k : Nat) => [.k, .k, .k, .k, .k, .j, .k, .j, .k, .k, .v (.i .i64 k), .j, .j, .j, .j, .j, .j, .j, .j, .j, .k]) (fun k => [.box false [.s [], .e0, .s [], .e0, .i .i64 0, .i .i64 0, .e0]]) (fun k => k ≤ l.length ∧ ∀ j, j < k → (!decide ((l.getD j default).name = x)) = true) (fun k => l.length - k) (0) _ ⟨aG _, fun j h => by omega⟩ rfl (by simp [eN]) ?_
   rintro k g j ⟨hk, ha⟩
   refine zg ?_
   (refine zs0 ?_; repeat' first | exact trivial | refine zJ ?_ ?_ | refine zH fun hc => ?_)
   · have e : (l.find? fun o => decide (o.name = x)) = some (l.getD k default) := bAi (by omega) (zt hc) ha
     rw [e]
     exact aE rfl (by simp only [fS, elO, pers, persL, P0, bI, avs, avb, avi, iO, fI, gW, dN])
   · exact ⟨k + 1, _, ⟨by omega, aY ha (by rw [zf hc]; rfl)⟩, by omega, rfl, by simp⟩
   · have e : (l.find? fun o => decide (o.name = x)) = none := bAh (d := default) (fun j hj => ha j (by omega))
     rw [e]
     exact S1
end Go.Proofs.YtifefbhllfdmlaaGreatDoor
