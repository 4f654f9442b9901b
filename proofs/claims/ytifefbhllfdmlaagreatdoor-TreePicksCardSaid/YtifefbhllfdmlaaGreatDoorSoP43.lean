/-
  Contracts of the library (sorting, fields, a byte in a string) at this program: laid by the kit's tool; no condition.
-/
import Derived.Shelf.Small.Strs
import Derived.Shelf.Strconv.Itoa3
import Derived.Shelf.Strings.Builder1
import Derived.Shelf.Strings.Fields
import Derived.Test.YtifefbhllfdmlaaGreatDoorProg
import Derived.Test.YtifefbhllfdmlaaGreatDoorSoP41
import Derived.Sort.Walk0
set_option linter.unusedVariables false
set_option maxRecDepth 100000
set_option linter.unusedSimpArgs false
set_option maxHeartbeats 4000000
namespace Go.Proofs
open Go.Shelf
def Tryz.lays169_ren : Go.Shelf.Ren := ⟨fun | 169 => 220 | n => n, fun | 70 => 230 | 9 => 9 | 0 => 0 | 72 => 233 | 37 => 231 | 127 => 264 | 3 => 3 | 5 => 5 | n => n, fun | n => n⟩
theorem Tryz.lays169 : Go.Proofs.Lays.n169 Tryz.prog Tryz.lays169_ren := {
 mixed := by kernel_rfl
 f169 := Tryz.func220.trans (congrArg some (by kernel_rfl))
 t0 := Tryz.underlying0
 a0 := Tryz.isAgg0
 z0 := Tryz.sizeOf0
 v0 := Tryz.zeroValue0
 t3 := Tryz.underlying3
 a3 := Tryz.isAgg3
 z3 := Tryz.sizeOf3
 v3 := Tryz.zeroValue3
 t9 := Tryz.underlying9
 a9 := Tryz.isAgg9
 z9 := Tryz.sizeOf9
 v9 := Tryz.zeroValue9
 t37 := Tryz.underlying231
 a37 := Tryz.isAgg231
 z37 := Tryz.sizeOf231
 v37 := Tryz.zeroValue231
 t70 := Tryz.underlying230
 a70 := Tryz.isAgg230
 z70 := Tryz.sizeOf230
 v70 := Tryz.zeroValue230
 t72 := Tryz.underlying233
 a72 := Tryz.isAgg233
 z72 := Tryz.sizeOf233
 v72 := Tryz.zeroValue233
 t127 := Tryz.underlying264
 a127 := Tryz.isAgg264
 z127 := Tryz.sizeOf264
 v127 := Tryz.zeroValue264 }
theorem Tryz.Builder_Extra_169 : Builder.Extra Tryz.prog Tryz.lays169_ren := {
 sizeBuilder := by kernel_rfl
 liesBuilder := by kernel_rfl
 t5 := Tryz.underlying5
 a5 := Tryz.isAgg5
 z5 := Tryz.sizeOf5
 v5 := Tryz.zeroValue5
 infoByte := by kernel_rfl
 cellsByte := by kernel_rfl
 sizeByte := by kernel_rfl
 neB5 := by decide }
def Tryz.lays137_ren : Go.Shelf.Ren := ⟨fun | 137 => 232 | 217 => 257 | 266 => 270 | n => n, fun | 9 => 9 | 5 => 5 | 3 => 3 | n => n, fun | n => n⟩
theorem Tryz.lays137 : Go.Proofs.Lays.n137 Tryz.prog Tryz.lays137_ren := {
 mixed := by kernel_rfl
 f137 := Tryz.func232.trans (congrArg some (by kernel_rfl))
 f217 := Tryz.func257.trans (congrArg some (by kernel_rfl))
 f266 := Tryz.func270.trans (congrArg some (by kernel_rfl))
 t3 := Tryz.underlying3
 a3 := Tryz.isAgg3
 z3 := Tryz.sizeOf3
 v3 := Tryz.zeroValue3
 t5 := Tryz.underlying5
 a5 := Tryz.isAgg5
 z5 := Tryz.sizeOf5
 v5 := Tryz.zeroValue5
 t9 := Tryz.underlying9
 a9 := Tryz.isAgg9
 z9 := Tryz.sizeOf9
 v9 := Tryz.zeroValue9 }
open Go.RowKit in
theorem Tryz.strings_IndexByte (s : ByteArray) (c : Int) (w : World) :
   Calls Tryz.prog 232 #[.string s, .int .u8 c] w fun e w' => e = .returned (.int .i64 (Lib.indexByte s.data.toList c.toNat.toUInt8)) ∧ w' = w := Any.strings_IndexByte Tryz.lays137 s c w
def Tryz.laysM171_ren : Go.Shelf.Ren := ⟨fun | 171 => 178 | 243 => 218 | 246 => 244 | 283 => 262 | 284 => 263 | 285 => 264 | 286 => 265 | 129 => 272 | 317 => 271 | 318 => 273 | 319 => 274 | 320 => 275 | 337 => 277 | 338 => 278 | n => n, fun | 3 => 3 | 9 => 9 | 2 => 2 | 4 => 4 | 171 => 277 | 0 => 0 | 53 => 278 | 37 => 231 | 5 => 5 | 173 => 281 | 212 => 296 | 51 => 273 | 20 => 20 | 213 => 297 | 46 => 298 | 232 => 305 | 233 => 306 | n => n, fun | 17 => 2 | 18 => 4 | 19 => 5 | n => n⟩
theorem Tryz.laysM171 : Go.Proofs.LaysM.n171 Tryz.prog Tryz.laysM171_ren := {
 mixed := by kernel_rfl
 f129 := Tryz.func272.trans (congrArg some (by kernel_rfl))
 f171 := Tryz.func178.trans (congrArg some (by kernel_rfl))
 f243 := Tryz.func218.trans (congrArg some (by kernel_rfl))
 f246 := Tryz.func244.trans (congrArg some (by kernel_rfl))
 f283 := Tryz.func262.trans (congrArg some (by kernel_rfl))
 f284 := Tryz.func263.trans (congrArg some (by kernel_rfl))
 f285 := Tryz.func264.trans (congrArg some (by kernel_rfl))
 f286 := Tryz.func265.trans (congrArg some (by kernel_rfl))
 f317 := Tryz.func271.trans (congrArg some (by kernel_rfl))
 f318 := Tryz.func273.trans (congrArg some (by kernel_rfl))
 f319 := Tryz.func274.trans (congrArg some (by kernel_rfl))
 f320 := Tryz.func275.trans (congrArg some (by kernel_rfl))
 f337 := Tryz.func277.trans (congrArg some (by kernel_rfl))
 f338 := Tryz.func278.trans (congrArg some (by kernel_rfl))
 t0 := Tryz.underlying0
 a0 := Tryz.isAgg0
 z0 := Tryz.sizeOf0
 v0 := Tryz.zeroValue0
 t2 := Tryz.underlying2
 a2 := Tryz.isAgg2
 z2 := Tryz.sizeOf2
 v2 := Tryz.zeroValue2
 t3 := Tryz.underlying3
 a3 := Tryz.isAgg3
 z3 := Tryz.sizeOf3
 v3 := Tryz.zeroValue3
 t4 := Tryz.underlying4
 a4 := Tryz.isAgg4
 z4 := Tryz.sizeOf4
 v4 := Tryz.zeroValue4
 t5 := Tryz.underlying5
 a5 := Tryz.isAgg5
 z5 := Tryz.sizeOf5
 v5 := Tryz.zeroValue5
 t9 := Tryz.underlying9
 a9 := Tryz.isAgg9
 z9 := Tryz.sizeOf9
 v9 := Tryz.zeroValue9
 t20 := Tryz.underlying20
 a20 := Tryz.isAgg20
 z20 := Tryz.sizeOf20
 v20 := Tryz.zeroValue20
 t37 := Tryz.underlying231
 a37 := Tryz.isAgg231
 z37 := Tryz.sizeOf231
 v37 := Tryz.zeroValue231
 t46 := Tryz.underlying298
 a46 := Tryz.isAgg298
 z46 := Tryz.sizeOf298
 v46 := Tryz.zeroValue298
 t51 := Tryz.underlying273
 a51 := Tryz.isAgg273
 z51 := Tryz.sizeOf273
 v51 := Tryz.zeroValue273
 t53 := Tryz.underlying278
 a53 := Tryz.isAgg278
 z53 := Tryz.sizeOf278
 v53 := Tryz.zeroValue278
 t171 := Tryz.underlying277
 a171 := Tryz.isAgg277
 z171 := Tryz.sizeOf277
 v171 := Tryz.zeroValue277
 t173 := Tryz.underlying281
 a173 := Tryz.isAgg281
 z173 := Tryz.sizeOf281
 v173 := Tryz.zeroValue281
 t212 := Tryz.underlying296
 a212 := Tryz.isAgg296
 z212 := Tryz.sizeOf296
 v212 := Tryz.zeroValue296
 t213 := Tryz.underlying297
 a213 := Tryz.isAgg297
 z213 := Tryz.sizeOf297
 t232 := Tryz.underlying305
 a232 := Tryz.isAgg305
 z232 := Tryz.sizeOf305
 v232 := Tryz.zeroValue305
 t233 := Tryz.underlying306
 a233 := Tryz.isAgg306
 z233 := Tryz.sizeOf306
 v233 := Tryz.zeroValue306
 g17 := by kernel_rfl
 g18 := by kernel_rfl
 g19 := by kernel_rfl
 i0 := by kernel_rfl
 i2 := by kernel_rfl
 i3 := by kernel_rfl
 i4 := by kernel_rfl
 i5 := by kernel_rfl
 i9 := by kernel_rfl
 i20 := by kernel_rfl
 i37 := by kernel_rfl
 i46 := by kernel_rfl
 i51 := by kernel_rfl
 i53 := by kernel_rfl
 i171 := by kernel_rfl
 i173 := by kernel_rfl
 i212 := by kernel_rfl
 i232 := by kernel_rfl
 i233 := by kernel_rfl
 m17 := by kernel_rfl
 m18 := by kernel_rfl
 m19 := by kernel_rfl }
open Go.RowKit Go.Sort Go.Lib in
theorem Tryz.strconv_Itoa (n : Int) (h0 : -9223372036854775808 ≤ n) (h1 : n ≤ 9223372036854775807) (w : World) (htab : Lib.TabIs Tryz.prog w "internal/strconv.uint64pow10" .u64 Lib.pow10Tab) :
   Calls Tryz.prog 178 #[.int .i64 n] w fun e w' => e = .returned (.string ⟨(Lib.itoa n).toArray⟩) ∧ ∃ k os, w' = grow (w.drewN k) os := Any.strconv_Itoa Tryz.laysM171 n h0 h1 w htab
def Tryz.lays157_ren : Go.Shelf.Ren := ⟨fun | 157 => 196 | 229 => 230 | 199 => 231 | 261 => 256 | 311 => 268 | 312 => 269 | n => n, fun | 9 => 9 | 31 => 22 | 3 => 3 | 5 => 5 | 4 => 4 | 119 => 249 | 0 => 0 | 40 => 251 | 152 => 270 | 21 => 21 | 154 => 272 | 51 => 273 | 141 => 275 | 196 => 286 | 193 => 283 | 198 => 289 | 49 => 287 | 194 => 284 | 201 => 292 | 226 => 302 | 46 => 298 | 227 => 303 | n => n, fun | 0 => 0 | 6 => 1 | n => n⟩
theorem Tryz.lays157 : Go.Proofs.Lays.n157 Tryz.prog Tryz.lays157_ren := {
 mixed := by kernel_rfl
 f157 := Tryz.func196.trans (congrArg some (by kernel_rfl))
 f199 := Tryz.func231.trans (congrArg some (by kernel_rfl))
 f229 := Tryz.func230.trans (congrArg some (by kernel_rfl))
 f261 := Tryz.func256.trans (congrArg some (by kernel_rfl))
 f311 := Tryz.func268.trans (congrArg some (by kernel_rfl))
 f312 := Tryz.func269.trans (congrArg some (by kernel_rfl))
 t0 := Tryz.underlying0
 a0 := Tryz.isAgg0
 z0 := Tryz.sizeOf0
 v0 := Tryz.zeroValue0
 t3 := Tryz.underlying3
 a3 := Tryz.isAgg3
 z3 := Tryz.sizeOf3
 v3 := Tryz.zeroValue3
 t4 := Tryz.underlying4
 a4 := Tryz.isAgg4
 z4 := Tryz.sizeOf4
 v4 := Tryz.zeroValue4
 t5 := Tryz.underlying5
 a5 := Tryz.isAgg5
 z5 := Tryz.sizeOf5
 v5 := Tryz.zeroValue5
 t9 := Tryz.underlying9
 a9 := Tryz.isAgg9
 z9 := Tryz.sizeOf9
 v9 := Tryz.zeroValue9
 t21 := Tryz.underlying21
 a21 := Tryz.isAgg21
 z21 := Tryz.sizeOf21
 v21 := Tryz.zeroValue21
 t31 := Tryz.underlying22
 a31 := Tryz.isAgg22
 z31 := Tryz.sizeOf22
 v31 := Tryz.zeroValue22
 t40 := Tryz.underlying251
 a40 := Tryz.isAgg251
 z40 := Tryz.sizeOf251
 v40 := Tryz.zeroValue251
 t46 := Tryz.underlying298
 a46 := Tryz.isAgg298
 z46 := Tryz.sizeOf298
 v46 := Tryz.zeroValue298
 t49 := Tryz.underlying287
 a49 := Tryz.isAgg287
 z49 := Tryz.sizeOf287
 v49 := Tryz.zeroValue287
 t51 := Tryz.underlying273
 a51 := Tryz.isAgg273
 z51 := Tryz.sizeOf273
 v51 := Tryz.zeroValue273
 t119 := Tryz.underlying249
 a119 := Tryz.isAgg249
 z119 := Tryz.sizeOf249
 t141 := Tryz.underlying275
 a141 := Tryz.isAgg275
 z141 := Tryz.sizeOf275
 v141 := Tryz.zeroValue275
 t152 := Tryz.underlying270
 a152 := Tryz.isAgg270
 z152 := Tryz.sizeOf270
 v152 := Tryz.zeroValue270
 t154 := Tryz.underlying272
 a154 := Tryz.isAgg272
 z154 := Tryz.sizeOf272
 v154 := Tryz.zeroValue272
 t193 := Tryz.underlying283
 a193 := Tryz.isAgg283
 z193 := Tryz.sizeOf283
 v193 := Tryz.zeroValue283
 t194 := Tryz.underlying284
 a194 := Tryz.isAgg284
 z194 := Tryz.sizeOf284
 v194 := Tryz.zeroValue284
 t196 := Tryz.underlying286
 a196 := Tryz.isAgg286
 z196 := Tryz.sizeOf286
 v196 := Tryz.zeroValue286
 t198 := Tryz.underlying289
 a198 := Tryz.isAgg289
 z198 := Tryz.sizeOf289
 v198 := Tryz.zeroValue289
 t201 := Tryz.underlying292
 a201 := Tryz.isAgg292
 z201 := Tryz.sizeOf292
 v201 := Tryz.zeroValue292
 t226 := Tryz.underlying302
 a226 := Tryz.isAgg302
 z226 := Tryz.sizeOf302
 v226 := Tryz.zeroValue302
 t227 := Tryz.underlying303
 a227 := Tryz.isAgg303
 z227 := Tryz.sizeOf303
 v227 := Tryz.zeroValue303
 g0 := by kernel_rfl
 g6 := by kernel_rfl }
end Go.Proofs
namespace Go.Proofs.YtifefbhllfdmlaaGreatDoor
open Go Go.Vo
open Nat (reduceAdd reduceSub reduceMul reduceLeDiff reduceLT reduceEqDiff)
open Int (reduceNeg)

theorem bFq (l : List LOp) (hl : l.length ≤ 1172812402961): CT 87 [avo l] (.own 1 ((l.map LOp.name).map .s) l.length) := by
 refine aF mixed Tryz.func87 g0 ?_
 · skip
   refine bT (fun (s : Nat × AV × List AObj) => [.k, .k, .k, .v (s.2.1), .k, .j, .k, .k, .v (.i .i64 (s.1 : Nat)), .j, .j, .j, .j, .j, .j, .j, .j, .j, .k]) (fun s => s.2.2) (fun s => s.1 ≤ l.length ∧ eZ 1 0 s.2.2 s.2.1 (((l.take s.1).map LOp.name).map .s) s.1) (fun s => l.length - s.1) ((0, .e0, [])) ⟨aG _, kU⟩ rfl (by simp [eQ]) ?_
   rintro ⟨k, out, g⟩ j ⟨hk, ho⟩
   dsimp only at hk ho
   refine zg ?_
   (refine zs0 ?_; repeat' first | exact trivial | refine zJ ?_ ?_ | refine zH fun hc => ?_)
   · refine fN (pre := []) (news := [.s (l.getD k default).name]) (m := 1) ho rfl rfl bAg zo9 sz9 by9 rfl (by decide) (by simp -implicitDefEqProofs (disch := omega) only [go_sem, simprocAttr]) (by simp -implicitDefEqProofs (disch := omega) only [go_sem, simprocAttr]) ⟨by omega, by omega⟩ ?_
     intro out' g' ho' _
     refine zg ?_
     refine ⟨(k + 1, out', g'), ⟨by omega, ?_⟩, by simp; omega, rfl, by simp⟩
     rw [eX (d := default) (by omega), aT, aT]
     exact ho'
   · have h1 : k = l.length := by omega
     subst h1
     exact uB (pre := []) (by simpa using ho) iN
end Go.Proofs.YtifefbhllfdmlaaGreatDoor
namespace Go.Proofs.YtifefbhllfdmlaaGreatDoor
open Go Go.Vo
open Nat (reduceAdd reduceSub reduceMul reduceLeDiff reduceLT reduceEqDiff)
open Int (reduceNeg)

def mF (x : Str) (L : List Str) (b : Str × Str) : List Str := if b.1 = x ∧ L.contains b.2 = false then L ++ [b.2] else L
def mP (l : List (Str × Str)) (x : Str) (L : List Str) : List Str := l.foldl (mF x) L
def climbG (l : List (Str × Str)) : Nat → Nat → List Str → List Str
 | 0, _, L => L
 | f + 1, i, L => if i < L.length then climbG l f (i + 1) (mP l (L.getD i []) L) else L
def climb (l : List (Str × Str)) (a : Str) : List Str := climbG l (l.length + 1) 0 [a]

theorem uP (x : Str) (L : List Str) (b : Str × Str) : (mF x L b = L) ∨ (b.1 = x ∧ L.contains b.2 = false ∧ mF x L b = L ++ [b.2]) := by
 unfold mF
 split
 · rename_i h; exact .inr ⟨h.1, h.2, rfl⟩
 · exact .inl rfl
structure Climbs (l : List (Str × Str)) (a : Str) (L : List Str) : Prop where
 nd : L.Nodup
 sub : ∀ x ∈ L, x = a ∨ ∃ b ∈ l, b.2 = x
 me : a ∈ L
theorem Climbs.step {l : List (Str × Str)} {a x : Str} {L : List Str} {b : Str × Str} (h : Climbs l a L) (hb : b ∈ l) : Climbs l a (mF x L b) := by
 rcases uP x L b with e | ⟨_, h2, e⟩
 · rw [e]; exact h
 · rw [e]
   refine ⟨?_, ?_, by simp [h.me]⟩
   · rw [lD]
     refine ⟨h.nd, by simp, ?_⟩
     intro y hy z hz hyz
     simp only [cL] at hz
     have : b.2 ∉ L := by simpa using h2
     exact this (hz ▸ hyz ▸ hy)
   · intro y hy
     rcases bY.1 hy with hy | hy
     · exact h.sub y hy
     · simp only [cL] at hy; exact .inr ⟨b, hb, hy.symm⟩
theorem sP {α : Type} [DecidableEq α] : ∀ {L M : List α}, L.Nodup → (∀ x ∈ L, x ∈ M) → L.length ≤ M.length
 | [], M, _, _ => aG _
 | x :: L, M, hn, hs => by
   rw [oP] at hn
   have hx := hs x (by simp)
   have := sP (L := L) (M := M.erase x) hn.2 (fun y hy => by
     have hne : y ≠ x := fun e => hn.1 (e ▸ hy)
     exact (List.mem_erase_of_ne hne).2 (hs y (by simp [hy])))
   rw [List.length_erase_of_mem hx] at this
   have hpos : 0 < M.length := List.length_pos_of_mem hx
   simp only [aK]; omega
theorem Climbs.len {l : List (Str × Str)} {a : Str} {L : List Str} (h : Climbs l a L) : L.length ≤ l.length + 1 := by
 have := sP (M := a :: l.map (·.2)) h.nd (fun x hx => by
   rcases h.sub x hx with h1 | ⟨b, h1, h2⟩
   · simp [h1]
   · simp only [bZ, qW]; exact .inr ⟨b, h1, h2⟩)
 simpa using this
theorem sE {x : Str} {L : List Str} {b : Str × Str} {i : Nat} (hi : i < L.length) : (mF x L b).getD i [] = L.getD i [] ∧ i < (mF x L b).length := by
 rcases uP x L b with e | ⟨_, _, e⟩
 · rw [e]; exact ⟨rfl, hi⟩
 · rw [e]; simp [List.getD, aC hi]; omega
theorem yC {l : List (Str × Str)} {i : Nat} {L : List Str} (h : L.length ≤ i) : ∀ f, climbG l f i L = L
 | 0 => rfl
 | f + 1 => by simp only [climbG]; rw [if_neg (by omega)]

theorem iX {l : List (Str × Str)} {x : Str} {L : List Str} {k : Nat} (h : k < l.length) : mP (l.take (k + 1)) x L = mF x (mP (l.take k) x L) (l.getD k ([], [])) := by
 rw [eX (d := ([], [])) h]; simp [mP, lE]

structure tN (l : List (Str × Str)) (a : Str) (i : Nat) (L : List Str) : Prop where
 le : i ≤ L.length
 c : Climbs l a L
 eq : climbG l (l.length + 1 - i) i L = climb l a
theorem tN.start (l : List (Str × Str)) (a : Str) : tN l a 0 [a] := ⟨by simp, ⟨by simp, by simp, by simp⟩, rfl⟩
theorem tN.next {l : List (Str × Str)} {a : Str} {i : Nat} {L : List Str} (h : tN l a i L) (hi : i < L.length) (hc : Climbs l a (mP l (L.getD i []) L)) (hl : i < (mP l (L.getD i []) L).length) : tN l a (i + 1) (mP l (L.getD i []) L) := by
 refine ⟨hl, hc, ?_⟩
 have := h.c.len
 have e : l.length + 1 - i = (l.length + 1 - (i + 1)) + 1 := by omega
 rw [← h.eq, e, climbG, if_pos hi]

theorem bIw (s : bX) (a : Str) (hb : s.below.length ≤ 1000000): CT 95 [.agg (aO s), .s a] (.own 1 ((climb s.below a).map .s) (climb s.below a).length) := by
 refine aF mixed Tryz.func95 g0 ?_
 · skip
   refine bT (fun (t : Nat × List Str × AV × List AObj) => [.k, .k, .k, .k, .k, .v (t.2.2.1), .v (.i .i64 (t.1 : Nat)), .k, .j, .k, .k, .j, .j, .j, .j, .j, .j, .j, .j, .j, .j, .j, .j, .j, .j, .j, .j, .j, .j, .j, .j, .j, .j, .j, .j, .j, .j, .j, .j, .j, .j, .j, .j, .j, .k]) (fun t => .box false [.sl (s.sorts.map .s) s.sorts.length, .sl (s.below.flatMap bU) s.below.length, .sl (s.ops.flatMap bA) s.ops.length, .sl (s.funs.flatMap bA) s.funs.length, .sl (s.values.map .s) s.values.length] :: t.2.2.2) (fun t => tN s.below a t.1 t.2.1 ∧ eZ 1 1 t.2.2.2 t.2.2.1 (t.2.1.map .s) t.2.1.length) (fun t => s.below.length + 1 - t.1) ((0, [a], .hs 1 0 1 false, [.arr false 1 [.s a]])) ⟨tN.start _ _, .inr ⟨0, rfl, rfl, rfl⟩⟩ rfl (by simp [eQ]) ?_
   rintro ⟨i, L, out, g⟩ j ⟨hI, ho⟩
   dsimp only at hI ho
   have hlen := hI.c.len
   have hle := hI.le
   rcases ho with ⟨_, hnil, _⟩ | ⟨i0, rfl, hg, _⟩
   · exfalso
     have h1 : L = [] := by simpa using hnil
     have := hI.c.me
     simp [h1] at this
   refine zh hg ?_
   (refine zx0 hg ?_; repeat' first | exact trivial | refine zJ ?_ ?_ | refine zH fun hc => ?_)
   · have hcl : i < L.length := by simpa using hc
     refine bT (fun (t : Nat × List Str × AV × List AObj) => [.k, .k, .k, .k, .k, .v (t.2.2.1), .k, .k, .j, .k, .k, .k, .k, .k, .k, .k, .k, .k, .k, .k, .v (.i .i64 (t.1 : Nat)), .j, .j, .j, .j, .j, .j, .j, .j, .j, .j, .j, .j, .j, .j, .j, .j, .j, .j, .j, .j, .j, .j, .j, .k]) (fun t => .box false [.sl (s.sorts.map .s) s.sorts.length, .sl (s.below.flatMap bU) s.below.length, .sl (s.ops.flatMap bA) s.ops.length, .sl (s.funs.flatMap bA) s.funs.length, .sl (s.values.map .s) s.values.length] :: t.2.2.2) (fun t => t.1 ≤ s.below.length ∧ t.2.1 = mP (s.below.take t.1) (L.getD i []) L ∧ Climbs s.below a t.2.1 ∧ (t.2.1.getD i [] = L.getD i [] ∧ i < t.2.1.length) ∧ eZ 1 1 t.2.2.2 t.2.2.1 (t.2.1.map .s) t.2.1.length) (fun t => s.below.length - t.1) ((0, L, .hs (i0 + 1) 0 L.length false, g)) ⟨aG _, rfl, hI.c, ⟨rfl, hcl⟩, .inr ⟨i0, rfl, hg, by simp⟩⟩ rfl (by simp [eQ]) ?_
     rintro ⟨k, M, out, g⟩ j ⟨hk, hM, hc2, ⟨hget, hlt⟩, ho⟩
     dsimp only at hk hM hc2 hget hlt ho
     have hlenM := hc2.len
     have ho1 := ho
     rcases ho with ⟨_, hnil, _⟩ | ⟨i1, rfl, hg1, _⟩
     · exfalso
       have h1 : M = [] := by simpa using hnil
       simp [h1] at hlt
     have hi1 := aM hg1
     have hg2 : ∀ m, (g ++ m)[i1]? = some (.arr false 1 (M.map .s)) := fun m => by rw [aC hi1]; exact hg1
     refine zh hg2 ?_
     (refine zx1 hg2 (zN M (s.below.getD k ([], [])).2) ?_; repeat' first | exact trivial | refine zJ ?_ ?_ | refine zH fun hc => ?_)
     · have e : mF (L.getD i []) M (s.below.getD k ([], [])) = M ++ [(s.below.getD k ([], [])).2] := if_pos ⟨by rw [← hget]; assumption, hc⟩
       have hp := sE (x := L.getD i []) (b := s.below.getD k ([], [])) hlt
       have hst := hc2.step (x := L.getD i []) (aV (d := ([], [])) (show k < s.below.length by omega))
       rw [e] at hp hst
       refine ⟨(k + 1, M ++ [(s.below.getD k ([], [])).2], .hs (g.length + 2 + 1) 0 (M.length + 1) false, _), ⟨by omega, ?_, hst, ⟨hp.1.trans hget, hp.2⟩, .inr ⟨g.length + 2, by simp, ?_, by simp⟩⟩, by simp; omega, rfl, by simp⟩
       · rw [iX (by omega), ← hM, e]
       · simp
     · have e : mF (L.getD i []) M (s.below.getD k ([], [])) = M := if_neg (by rw [hc]; simp)
       refine ⟨(k + 1, M, _, _), ⟨by omega, ?_, hc2, ⟨hget, hlt⟩, ho1.more _⟩, by simp; omega, rfl, by simp⟩
       rw [iX (by omega), ← hM, e]
     · have e : mF (L.getD i []) M (s.below.getD k ([], [])) = M := if_neg (by rw [hget] at hc; exact fun h => hc h.1)
       refine ⟨(k + 1, M, _, _), ⟨by omega, ?_, hc2, ⟨hget, hlt⟩, ho1.more _⟩, by simp; omega, rfl, by simp⟩
       rw [iX (by omega), ← hM, e]
     · have h1 : s.below.take k = s.below := aS (by omega)
       rw [h1] at hM
       subst hM
       exact ⟨(i + 1, _, _, _), ⟨hI.next hcl hc2 hlt, ho1⟩, by simp; omega, rfl, by simp⟩
   · have hd := hI.eq
     rw [yC (by omega)] at hd
     subst hd
     exact uB (pre := [_]) (.inr ⟨i0, rfl, hg, by simp⟩) iN
theorem aWa (s : bX) (a : Str) (hb : s.below.length ≤ 1000000): CT 164 [.agg (aO s), .s a] (.own 1 ((climb s.below a).map .s) (climb s.below a).length) := by
 refine aF mixed Tryz.func164 g0 ?_
 · skip
   refine bT (fun (t : Nat × List Str × AV × List AObj) => [.k, .k, .k, .k, .k, .v (t.2.2.1), .v (.i .i64 (t.1 : Nat)), .k, .j, .k, .k, .j, .j, .j, .j, .j, .j, .j, .j, .j, .j, .j, .j, .j, .j, .j, .j, .j, .j, .j, .j, .j, .j, .j, .j, .j, .j, .j, .j, .j, .j, .j, .j, .j, .k]) (fun t => .box false [.sl (s.sorts.map .s) s.sorts.length, .sl (s.below.flatMap bU) s.below.length, .sl (s.ops.flatMap bA) s.ops.length, .sl (s.funs.flatMap bA) s.funs.length, .sl (s.values.map .s) s.values.length] :: t.2.2.2) (fun t => tN s.below a t.1 t.2.1 ∧ eZ 1 1 t.2.2.2 t.2.2.1 (t.2.1.map .s) t.2.1.length) (fun t => s.below.length + 1 - t.1) ((0, [a], .hs 1 0 1 false, [.arr false 1 [.s a]])) ⟨tN.start _ _, .inr ⟨0, rfl, rfl, rfl⟩⟩ rfl (by simp [eQ]) ?_
   rintro ⟨i, L, out, g⟩ j ⟨hI, ho⟩
   dsimp only at hI ho
   have hlen := hI.c.len
   have hle := hI.le
   rcases ho with ⟨_, hnil, _⟩ | ⟨i0, rfl, hg, _⟩
   · exfalso
     have h1 : L = [] := by simpa using hnil
     have := hI.c.me
     simp [h1] at this
   refine zh hg ?_
   (refine zx0 hg ?_; repeat' first | exact trivial | refine zJ ?_ ?_ | refine zH fun hc => ?_)
   · have hcl : i < L.length := by simpa using hc
     refine bT (fun (t : Nat × List Str × AV × List AObj) => [.k, .k, .k, .k, .k, .v (t.2.2.1), .k, .k, .j, .k, .k, .k, .k, .k, .k, .k, .k, .k, .k, .k, .v (.i .i64 (t.1 : Nat)), .j, .j, .j, .j, .j, .j, .j, .j, .j, .j, .j, .j, .j, .j, .j, .j, .j, .j, .j, .j, .j, .j, .j, .k]) (fun t => .box false [.sl (s.sorts.map .s) s.sorts.length, .sl (s.below.flatMap bU) s.below.length, .sl (s.ops.flatMap bA) s.ops.length, .sl (s.funs.flatMap bA) s.funs.length, .sl (s.values.map .s) s.values.length] :: t.2.2.2) (fun t => t.1 ≤ s.below.length ∧ t.2.1 = mP (s.below.take t.1) (L.getD i []) L ∧ Climbs s.below a t.2.1 ∧ (t.2.1.getD i [] = L.getD i [] ∧ i < t.2.1.length) ∧ eZ 1 1 t.2.2.2 t.2.2.1 (t.2.1.map .s) t.2.1.length) (fun t => s.below.length - t.1) ((0, L, .hs (i0 + 1) 0 L.length false, g)) ⟨aG _, rfl, hI.c, ⟨rfl, hcl⟩, .inr ⟨i0, rfl, hg, by simp⟩⟩ rfl (by simp [eQ]) ?_
     rintro ⟨k, M, out, g⟩ j ⟨hk, hM, hc2, ⟨hget, hlt⟩, ho⟩
     dsimp only at hk hM hc2 hget hlt ho
     have hlenM := hc2.len
     have ho1 := ho
     rcases ho with ⟨_, hnil, _⟩ | ⟨i1, rfl, hg1, _⟩
     · exfalso
       have h1 : M = [] := by simpa using hnil
       simp [h1] at hlt
     have hi1 := aM hg1
     have hg2 : ∀ m, (g ++ m)[i1]? = some (.arr false 1 (M.map .s)) := fun m => by rw [aC hi1]; exact hg1
     refine zh hg2 ?_
     (refine zx1 hg2 (vP M (s.below.getD k ([], [])).2) ?_; repeat' first | exact trivial | refine zJ ?_ ?_ | refine zH fun hc => ?_)
     · have e : mF (L.getD i []) M (s.below.getD k ([], [])) = M ++ [(s.below.getD k ([], [])).2] := if_pos ⟨by rw [← hget]; assumption, hc⟩
       have hp := sE (x := L.getD i []) (b := s.below.getD k ([], [])) hlt
       have hst := hc2.step (x := L.getD i []) (aV (d := ([], [])) (show k < s.below.length by omega))
       rw [e] at hp hst
       refine ⟨(k + 1, M ++ [(s.below.getD k ([], [])).2], .hs (g.length + 2 + 1) 0 (M.length + 1) false, _), ⟨by omega, ?_, hst, ⟨hp.1.trans hget, hp.2⟩, .inr ⟨g.length + 2, by simp, ?_, by simp⟩⟩, by simp; omega, rfl, by simp⟩
       · rw [iX (by omega), ← hM, e]
       · simp
     · have e : mF (L.getD i []) M (s.below.getD k ([], [])) = M := if_neg (by rw [hc]; simp)
       refine ⟨(k + 1, M, _, _), ⟨by omega, ?_, hc2, ⟨hget, hlt⟩, ho1.more _⟩, by simp; omega, rfl, by simp⟩
       rw [iX (by omega), ← hM, e]
     · have e : mF (L.getD i []) M (s.below.getD k ([], [])) = M := if_neg (by rw [hget] at hc; exact fun h => hc h.1)
       refine ⟨(k + 1, M, _, _), ⟨by omega, ?_, hc2, ⟨hget, hlt⟩, ho1.more _⟩, by simp; omega, rfl, by simp⟩
       rw [iX (by omega), ← hM, e]
     · have h1 : s.below.take k = s.below := aS (by omega)
       rw [h1] at hM
       subst hM
       exact ⟨(i + 1, _, _, _), ⟨hI.next hcl hc2 hlt, ho1⟩, by simp; omega, rfl, by simp⟩
   · have hd := hI.eq
     rw [yC (by omega)] at hd
     subst hd
     exact uB (pre := [_]) (.inr ⟨i0, rfl, hg, by simp⟩) iN
end Go.Proofs.YtifefbhllfdmlaaGreatDoor
namespace Go.Proofs.YtifefbhllfdmlaaGreatDoor
open Go Go.Vo
open Nat (reduceAdd reduceSub reduceMul reduceLeDiff reduceLT reduceEqDiff)
open Int (reduceNeg)

theorem bEh : (22 : Nat) ≠ 3 := by decide
theorem bOe {h : List AObj} : hY Tryz.prog h .cap #[22] [.e0] = some (.i .i64 0, h) := aMw bRa
theorem bKb {dr : Option DR} {d : Option Nat} {os : List fD} {K : List AV → List AObj → Prop} {env : List AV} {h : List AObj} {s x : Operand} : dK Tryz.prog G0 dr (.call ⟨.builtin .append, #[s, x], #[22, 3]⟩) d os K env h = L7 Tryz.prog G0 dr (Tryz.prog.underlying 3) (nO Tryz.prog h 22 (aev G0 env s) (aev G0 env x)) d os K env := sM bEh
theorem bOd : ((0 : Nat) : Int) = 0 := rfl
theorem aBp {a : AV} : ∀ {n : Nat}, (List.replicate n [a]).flatten = List.replicate n a
 | 0 => rfl
 | n + 1 => by rw [gW, bV, aBp]; rfl
attribute [go_sem] bOe bOd Int.sub_zero aBp List.length_replicate false_and aG
attribute [go_sem ↓] bKb
theorem bIk (n : Nat) (hn : n ≤ 1000000): CT 152 [.e0, .i .i64 n] (.own 1 [] 0) := by
 refine aF mixed Tryz.func152 g0 ?_
 · skip
   (refine zs0 ?_; repeat' first | exact trivial | refine zJ ?_ ?_ | refine zH fun hc => ?_)
   · exfalso; omega
   · rw [if_pos (by omega), if_neg (by omega)]
     refine zg ?_
     exact .inr ⟨⟨rfl, rfl, _, rfl, by simp, by simp, rfl⟩, by simp [bK], by simp [bK, hJ]⟩
   · exact .inr ⟨⟨rfl, rfl⟩, by simp [bK], by simp [bK]⟩
theorem Z0 {l : List (List Str)} {k : Nat} (h : k < l.length) : (l.map avs)[k]? = some (avs (l.getD k [])) := by simp [h]
attribute [go_sem] Z0
def K7 (l : List (List Str)) : Nat := l.flatten.length
@[simp] theorem bKn : K7 [] = 0 := rfl
theorem wQ {l : List (List Str)} {k : Nat} (h : k < l.length) : K7 (l.take (k + 1)) = K7 (l.take k) + (l.getD k []).length := by
 rw [eX (d := []) h]; simp [K7]
theorem aHy {l : List (List Str)} {k : Nat} : K7 (l.take k) ≤ K7 l := by
 have h : (l.take k ++ l.drop k).flatten.length = l.flatten.length := by rw [gH]
 unfold K7
 rw [jH, aI] at h
 omega
theorem aHz {l : List (List Str)} {k : Nat} (h : k < l.length) : K7 (l.take k) + (l.getD k []).length ≤ K7 l := by
 rw [← wQ h]; exact aHy
theorem bIx (l : List (List Str)) (hl : l.length ≤ 1000) (hs : K7 l ≤ 1000000): CT 94 [.sl (l.map avs) l.length] (.own 1 (l.flatten.map .s) l.flatten.length) := by
 refine aF mixed Tryz.func94 g0 ?_
 · skip
   refine bT (fun (k : Nat) => [.k, .k, .k, .v (.i .i64 (K7 (l.take k) : Nat)), .k, .j, .k, .k, .k, .k, .k, .v (.i .i64 k), .j, .j, .j, .j, .j, .j, .j, .j, .j, .j, .j, .k, .k, .k, .k, .k, .k, .k, .k, .k, .k, .k, .k, .k]) (fun k => []) (fun k => k ≤ l.length) (fun k => l.length - k) (0) (aG _) rfl (by simp [eQ]) ?_
   rintro k j hk
   have hat : k < l.length → K7 (l.take k) + (l.getD k []).length ≤ K7 l := aHz
   have hkk := aHy (l := l) (k := k)
   refine zg ?_
   (refine zs0 ?_; repeat' first | exact trivial | refine zJ ?_ ?_ | refine zH fun hc => ?_)
   · exfalso; omega
   · refine ⟨k + 1, by omega, by omega, ?_, by simp⟩
     rw [wQ (by omega)]; simp
   · have h1 : k = l.length := by omega
     subst h1
     refine aMy (bIk (K7 l) (by omega)) (by simp -implicitDefEqProofs (disch := omega) only [aPc, go_sem, simprocAttr]) ?_
     refine zg ?_
     refine bT (fun (t : Nat × AV × List AObj) => [.k, .k, .k, .k, .k, .k, .v (t.2.1), .k, .j, .k, .k, .k, .k, .k, .k, .k, .k, .k, .k, .k, .k, .k, .k, .k, .k, .k, .k, .v (.i .i64 (t.1 : Nat)), .j, .j, .j, .j, .j, .j, .j, .k]) (fun t => t.2.2) (fun t => t.1 ≤ l.length ∧ eZ 1 0 t.2.2 t.2.1 ((l.take t.1).flatten.map .s) (K7 (l.take t.1))) (fun t => l.length - t.1) ((0, .hs 0 0 0 false, [.arr false 1 []])) ⟨aG _, .inr ⟨0, rfl, rfl, rfl⟩⟩ rfl (by simp [eQ]) ?_
     rintro ⟨k, out, g⟩ j ⟨hk, ho⟩
     dsimp only at hk ho
     have hat : k < l.length → K7 (l.take k) + (l.getD k []).length ≤ K7 l := aHz
     refine zg ?_
     (refine zs0 ?_; repeat' first | exact trivial | refine zJ ?_ ?_ | refine zH fun hc => ?_)
     · refine fN (more := []) (pre := []) (news := (l.getD k []).map .s) (m := (l.getD k []).length) ho rfl (by simp) bAg zo9 sz9 by9 rfl (by decide) (by simp -implicitDefEqProofs (disch := omega) only [go_sem, simprocAttr]) (by simp -implicitDefEqProofs (disch := omega) only [go_sem, simprocAttr]) ⟨by omega, by omega⟩ ?_
       intro out' g' ho' _
       refine zg ?_
       refine ⟨(k + 1, out', g'), ⟨by omega, ?_⟩, by simp; omega, rfl, by simp⟩
       dsimp only
       rw [wQ (by omega), eX (d := []) (by omega), jH, aT]
       simpa using ho'
     · have h1 : k = l.length := by omega
       subst h1
       rw [iB] at ho
       exact uB (pre := []) ho iN
end Go.Proofs.YtifefbhllfdmlaaGreatDoor
namespace Go.Proofs.YtifefbhllfdmlaaGreatDoor
open Go Go.Vo
open Nat (reduceAdd reduceSub reduceMul reduceLeDiff reduceLT reduceEqDiff)
open Int (reduceNeg)

structure Small (s : bX) : Prop where
 sorts : s.sorts.length ≤ 100
 below : s.below.length ≤ 1000
 ops : s.ops.length ≤ 1000
 funs : s.funs.length ≤ 1000
 values : s.values.length ≤ 1000
def keysOf (s : bX) : List Str := fU ++ s.sorts
def ups (s : bX) (a : Str) : AV := avs (climb s.below a)
def J5 (s : bX) : AV := .mapv ((keysOf s).map .s) ((keysOf s).map (ups s))
def aQe (l : List LOp) : AV := .mapv ((l.map LOp.name).map .s) (l.map elO)
def kF (s : bX) : List AV := aO s ++ [J5 s, aQe s.ops, aQe s.funs]
def cB (s : bX) : AV := .box (kF s) 0
structure J9 (s : bX) : Prop where
 keys : (keysOf s).Nodup
 ops : (s.ops.map LOp.name).Nodup
 funs : (s.funs.map LOp.name).Nodup

theorem xE {s : bX} : ∀ {l : List Str}, persL (l.map (ups s)) = true
 | [] => rfl
 | x :: l => by simp only [aY, persL, ups, xG, xE, dQ]
theorem xF : ∀ {l : List LOp}, persL (l.map elO) = true
 | [] => rfl
 | x :: l => by simp [elO, persL, pers, bA, avs, avi, avb, iN, fP, iD, xF]
attribute [go_sem] xE xF
theorem S5 (s : bX) (hs : Small s) (hd : J9 s): CT 48 [.agg (aO s)] (cB s) := by
 refine aF mixed Tryz.func48 g0 ?_
 · skip
   have h1 := hs.sorts
   have h2 := hs.below
   have h3 := hs.ops
   have h4 := hs.funs
   (repeat' (first | refine gT ?_ ?_ | refine gF ?_ ?_ | refine gC ?_ ?_ | (refine cE (bFu) ?_; simp -implicitDefEqProofs (disch := omega) only [go_sem, simprocAttr]) | refine aZ (by omega) ?_ | (intro hr; have hc := hr; (try simp only [zdz] at hc); simp -implicitDefEqProofs (disch := omega) only [hr, go_sem, simprocAttr]; (try clear hr))))
   refine aX (bIx [fU, s.sorts] (by simp) ?_) ?_ ?_
   · simp [K7, fU]; omega
   · simp -implicitDefEqProofs (disch := omega) only [fU, go_sem, simprocAttr]
   · simp -implicitDefEqProofs (disch := omega) only [go_sem, simprocAttr]
     have hK : [fU, s.sorts].flatten = keysOf s := by simp [keysOf]
     have hKl : (keysOf s).length ≤ 107 := by simp [keysOf, fU]; omega
     rw [hK]
     refine dV (fun (k : Nat) => [.k, .k, .k, .k, .k, .j, .k, .k, .k, .k, .k, .k, .k, .k, .k, .k, .k, .k, .k, .k, .k, .k, .v (.i .i64 k), .j, .j, .j, .j, .j, .j, .j, .j, .j, .j, .j, .j, .k, .k, .k, .k, .k, .k, .k, .k, .k, .k, .k, .k, .k, .k, .k, .k, .k, .k, .k, .k, .k, .k, .k, .k, .k, .k, .k, .k, .k, .k, .k]) (fun k => [.box false [.sl (s.sorts.map .s) s.sorts.length, .sl (s.below.flatMap bU) s.below.length, .sl (s.ops.flatMap bA) s.ops.length, .sl (s.funs.flatMap bA) s.funs.length, .sl (s.values.map .s) s.values.length], .map false (((keysOf s).take k).map .s) (((keysOf s).take k).map (ups s)), .map false [] [], .map false [] [], .box false [.sl (s.sorts.map .s) s.sorts.length, .sl (s.below.flatMap bU) s.below.length, .sl (s.ops.flatMap bA) s.ops.length, .sl (s.funs.flatMap bA) s.funs.length, .sl (s.values.map .s) s.values.length, .mp 1, .mp 2, .mp 3], .arr false 1 (fU.map .s), .arr false 1 [.hs 5 0 fU.length false, .sl (s.sorts.map .s) s.sorts.length], .arr false 1 ((keysOf s).map .s)]) (fun k => k ≤ (keysOf s).length) (fun k => (keysOf s).length - k) (0) _ (aG _) rfl (by simp [eQ]) ?_
     rintro k g j hk
     simp -implicitDefEqProofs (disch := omega) only [go_sem, simprocAttr]
     (repeat' (first | refine gT ?_ ?_ | refine gF ?_ ?_ | refine gC ?_ ?_ | refine aZ (by omega) ?_ | (intro hr; have hc := hr; (try simp only [zdz] at hc); simp -implicitDefEqProofs (disch := omega) only [hr, go_sem, simprocAttr]; (try clear hr))))
     · refine aX (bIw s ((keysOf s).getD k []) (by omega)) ?_ ?_
       · simp -implicitDefEqProofs (disch := omega) only [go_sem, simprocAttr]
       · have hno := lQ (lN (d := []) hd.keys (show k < (keysOf s).length by omega))
         simp -implicitDefEqProofs (disch := omega) only [lO, aOg, hno, go_sem, simprocAttr]
         refine ⟨k + 1, _, by omega, by omega, congr (congrArg List.cons rfl) (congr (congrArg List.cons ?_) rfl), by simp⟩
         rw [eX (d := []) (by omega), aT, aT]; rfl
     · have hk2 : k = (keysOf s).length := by omega
       subst hk2
       refine dV (fun (k : Nat) => [.k, .k, .k, .k, .k, .k, .k, .j, .k, .k, .k, .k, .k, .k, .k, .k, .k, .k, .k, .k, .k, .k, .k, .k, .k, .k, .k, .k, .k, .k, .k, .k, .k, .k, .k, .k, .k, .k, .v (.i .i64 k), .j, .j, .j, .j, .j, .j, .j, .j, .j, .j, .j, .k, .k, .k, .k, .k, .k, .k, .k, .k, .k, .k, .k, .k, .k, .k, .k]) (fun k => [.box false [.sl (s.sorts.map .s) s.sorts.length, .sl (s.below.flatMap bU) s.below.length, .sl (s.ops.flatMap bA) s.ops.length, .sl (s.funs.flatMap bA) s.funs.length, .sl (s.values.map .s) s.values.length], .map false ((keysOf s).map .s) ((keysOf s).map (ups s)), .map false (((s.ops.take k).map LOp.name).map .s) ((s.ops.take k).map elO), .map false [] [], .box false [.sl (s.sorts.map .s) s.sorts.length, .sl (s.below.flatMap bU) s.below.length, .sl (s.ops.flatMap bA) s.ops.length, .sl (s.funs.flatMap bA) s.funs.length, .sl (s.values.map .s) s.values.length, .mp 1, .mp 2, .mp 3], .arr false 1 (fU.map .s), .arr false 1 [.hs 5 0 fU.length false, .sl (s.sorts.map .s) s.sorts.length], .arr false 1 ((keysOf s).map .s)]) (fun k => k ≤ s.ops.length) (fun k => s.ops.length - k) (0) _ (aG _) rfl (by simp [eQ]) ?_
       rintro k g j hk
       simp -implicitDefEqProofs (disch := omega) only [go_sem, simprocAttr]
       (repeat' (first | refine gT ?_ ?_ | refine gF ?_ ?_ | refine gC ?_ ?_ | refine aZ (by omega) ?_ | (intro hr; have hc := hr; (try simp only [zdz] at hc); simp -implicitDefEqProofs (disch := omega) only [hr, go_sem, simprocAttr]; (try clear hr))))
       · have hkn : (s.ops.getD k default).name = (s.ops.map LOp.name).getD k [] := by simp [List.getD, show k < s.ops.length by omega]
         have hno := lQ (lN (d := []) hd.ops (show k < (s.ops.map LOp.name).length by simp; omega))
         rw [← hkn, ← List.map_take] at hno
         simp -implicitDefEqProofs (disch := omega) only [lO, aOg, hno, go_sem, simprocAttr]
         refine ⟨k + 1, _, by omega, by omega, congr (congrArg List.cons rfl) (congr (congrArg List.cons rfl) (congr (congrArg List.cons ?_) rfl)), by simp⟩
         rw [eX (d := default) (by omega), aT, aT, aT]; rfl
       · have hk2 : k = s.ops.length := by omega
         subst hk2
         refine dV (fun (k : Nat) => [.k, .k, .k, .k, .k, .k, .k, .k, .k, .j, .k, .k, .k, .k, .k, .k, .k, .k, .k, .k, .k, .k, .k, .k, .k, .k, .k, .k, .k, .k, .k, .k, .k, .k, .k, .k, .k, .k, .k, .k, .k, .k, .k, .k, .k, .k, .k, .k, .k, .k, .k, .k, .k, .v (.i .i64 k), .j, .j, .j, .j, .j, .j, .j, .j, .j, .j, .j, .k]) (fun k => [.box false [.sl (s.sorts.map .s) s.sorts.length, .sl (s.below.flatMap bU) s.below.length, .sl (s.ops.flatMap bA) s.ops.length, .sl (s.funs.flatMap bA) s.funs.length, .sl (s.values.map .s) s.values.length], .map false ((keysOf s).map .s) ((keysOf s).map (ups s)), .map false ((s.ops.map LOp.name).map .s) (s.ops.map elO), .map false (((s.funs.take k).map LOp.name).map .s) ((s.funs.take k).map elO), .box false [.sl (s.sorts.map .s) s.sorts.length, .sl (s.below.flatMap bU) s.below.length, .sl (s.ops.flatMap bA) s.ops.length, .sl (s.funs.flatMap bA) s.funs.length, .sl (s.values.map .s) s.values.length, .mp 1, .mp 2, .mp 3], .arr false 1 (fU.map .s), .arr false 1 [.hs 5 0 fU.length false, .sl (s.sorts.map .s) s.sorts.length], .arr false 1 ((keysOf s).map .s)]) (fun k => k ≤ s.funs.length) (fun k => s.funs.length - k) (0) _ (aG _) rfl (by simp [eQ]) ?_
         rintro k g j hk
         simp -implicitDefEqProofs (disch := omega) only [go_sem, simprocAttr]
         (repeat' (first | refine gT ?_ ?_ | refine gF ?_ ?_ | refine gC ?_ ?_ | refine aZ (by omega) ?_ | (intro hr; have hc := hr; (try simp only [zdz] at hc); simp -implicitDefEqProofs (disch := omega) only [hr, go_sem, simprocAttr]; (try clear hr))))
         · have hkn : (s.funs.getD k default).name = (s.funs.map LOp.name).getD k [] := by simp [List.getD, show k < s.funs.length by omega]
           have hno := lQ (lN (d := []) hd.funs (show k < (s.funs.map LOp.name).length by simp; omega))
           rw [← hkn, ← List.map_take] at hno
           simp -implicitDefEqProofs (disch := omega) only [lO, aOg, hno, go_sem, simprocAttr]
           refine ⟨k + 1, _, by omega, by omega, congr (congrArg List.cons rfl) (congr (congrArg List.cons rfl) (congr (congrArg List.cons rfl) (congr (congrArg List.cons ?_) rfl))), by simp⟩
           rw [eX (d := default) (by omega), aT, aT, aT]; rfl
         · refine .inr ⟨?_, by simp [bK, cB], by simp [bK, cB]⟩
           simp only [cB, lR]
           simp -implicitDefEqProofs (disch := omega) only [kF, J5, aQe, go_sem, simprocAttr]
end Go.Proofs.YtifefbhllfdmlaaGreatDoor
namespace Go.Proofs.YtifefbhllfdmlaaGreatDoor
open Go Go.Vo
open Nat (reduceAdd reduceSub reduceMul reduceLeDiff reduceLT reduceEqDiff)
open Int (reduceNeg)

theorem rB {l : List (Str × Str)} {a x : Str} : ∀ (m : List (Str × Str)) (L : List Str), (∀ b ∈ m, b ∈ l) → Climbs l a L → Climbs l a (mP m x L)
 | [], L, _, h => h
 | b :: m, L, hm, h => rB m _ (fun c hc => hm c (by simp [hc])) (h.step (hm b (by simp)))
theorem tF {l : List (Str × Str)} {a : Str} : ∀ (f i : Nat) (L : List Str), Climbs l a L → Climbs l a (climbG l f i L)
 | 0, i, L, h => h
 | f + 1, i, L, h => by
   simp only [climbG]
   split
   · exact tF f _ _ (rB l L (fun _ h => h) h)
   · exact h
theorem T1 (l : List (Str × Str)) (a : Str) : Climbs l a (climb l a) := tF _ _ _ ⟨by simp, by simp, by simp⟩
theorem tE (l : List (Str × Str)) (a : Str) : (climb l a).length ≤ l.length + 1 := (T1 l a).len

theorem G4 {l : List Str} {x : Str} (h : l.contains x = true) : ∃ i, (l.findIdx? fun y => decide (x = y)) = some i ∧ ∀ {β : Type} (f : Str → β), (l.map f)[i]? = some (f x) := by
 cases hf : l.findIdx? fun y => decide (x = y) with
 | none =>
   rw [eE] at hf
   have hm : x ∈ l := by simpa using h
   have := hf x hm
   simp at this
 | some i =>
   rw [fL] at hf
   obtain ⟨hi, hx, _⟩ := hf
   have hx : x = l[i] := by simpa using hx
   exact ⟨i, rfl, fun f => by simp [hi, ← hx]⟩
attribute [go_sem] lO aOg
theorem aNf {s : bX} : (kF s)[0]? = some (avs s.sorts) := rfl
theorem aNe {s : bX} : (kF s)[5]? = some (.mapv ((keysOf s).map .s) ((keysOf s).map (ups s))) := rfl
theorem aNd {s : bX} : (kF s)[6]? = some (.mapv ((s.ops.map LOp.name).map .s) (s.ops.map elO)) := rfl
theorem aNc {s : bX} : (kF s)[7]? = some (.mapv ((s.funs.map LOp.name).map .s) (s.funs.map elO)) := rfl
attribute [go_sem] cB aNf aNe aNd aNc
def dA (s : bX) (a : Str) : Bool := (keysOf s).contains a
theorem pI {s : bX} : pers (cB s) = true := by
 simp only [cB, kF, pers, persL, aO, avs, avb, avo, dE, dG, iN, iD, aBw, J5, aQe, xE, xF, dQ]
theorem aFo {s : bX} : persL (kF s) = true := by
 have := pI (s := s)
 simpa [cB, pers] using this
attribute [go_sem] aFo
theorem H8 (s : bX) (x : Str): CT 90 [cB s, .s x] (.b (dA s x)) := by
 refine aF mixed Tryz.func90 g0 ?_
 · skip
   by_cases hx : (keysOf s).contains x = true
   · obtain ⟨i, hf, hv⟩ := G4 hx
     simp -implicitDefEqProofs (disch := omega) only [hf, hv, go_sem, simprocAttr]
     exact aE (by rw [dA, hx]) rfl
   · have hx := fH.2 hx
     refine zh (qH hx) ?_
     exact aE (by rw [dA, hx]) rfl
def mM : Str := [65, 110, 121]
def U7 (s : bX) (x : Str) : List Str := if dA s x then climb s.below x else []
def iM (s : bX) (x y : Str) : Bool := decide (y = mM) || (U7 s x).contains y
theorem aRy (s : bX) (x y : Str) (hs : Small s): CT 158 [cB s, .s x, .s y] (.b (iM s x y)) := by
 refine aF mixed Tryz.func158 g0 ?_
 · skip
   have hl := tE s.below x
   have h2 := hs.below
   by_cases hx : (keysOf s).contains x = true
   · obtain ⟨i, hf, hv⟩ := G4 hx
     (repeat' (first | refine gT ?_ ?_ | refine gF ?_ ?_ | refine gC ?_ ?_ | (refine cE (zN (climb s.below x) y (by omega)) ?_; simp -implicitDefEqProofs (disch := omega) only [hf, hv, ups, go_sem, simprocAttr]) | refine aZ (by omega) ?_ | (intro hr; have hc := hr; (try simp only [zdz] at hc); simp -implicitDefEqProofs (disch := omega) only [hr, hf, hv, ups, go_sem, simprocAttr]; (try clear hr))))
     all_goals (refine aE ?_ (by rfl))
     all_goals simp_all [iM, U7, dA, mM]
   · have hx := fH.2 hx
     (refine zx1 (qH hx) (zN [] y (by simp)) ?_; repeat' first | exact trivial | refine zJ ?_ ?_ | refine zH fun hc => ?_)
     all_goals (refine aE ?_ (by rfl))
     all_goals simp_all [iM, U7, dA, mM]
def aKg (s : bX) (x y : Str) : Bool := iM s x y || iM s y x
theorem bNo (s : bX) (x y : Str) (hs : Small s): CT 186 [cB s, .s x, .s y] (.b (aKg s x y)) := by
 refine aF mixed Tryz.func186 g0 ?_
 · skip
   (refine zs2 (aRy s x y hs) (aRy s y x hs) ?_; repeat' first | exact trivial | refine zJ ?_ ?_ | refine zH fun hc => ?_)
   all_goals (refine aE ?_ (by rfl))
   all_goals simp_all [aKg]
end Go.Proofs.YtifefbhllfdmlaaGreatDoor
namespace Go.Proofs.YtifefbhllfdmlaaGreatDoor
open Go Go.Vo
open Nat (reduceAdd reduceSub reduceMul reduceLeDiff reduceLT reduceEqDiff)
open Int (reduceNeg)

def Z9 (s : Str) (c : Int) : Int := Lib.indexByte s c.toNat.toUInt8
def aDn : Str := [97, 100, 100, 32, 115, 117, 98, 32, 109, 117, 108, 32, 100, 105, 118, 32, 109, 111, 100, 32, 110, 101, 103, 32, 108, 116, 32, 108, 101, 32, 103, 116, 32, 103, 101, 32, 101, 113, 32, 110, 101, 32, 97, 110, 100, 32, 111, 114, 32, 110, 111, 116, 32, 112, 105, 99, 107, 32, 99, 97, 116, 32, 108, 101, 110, 103, 116, 104, 32, 116, 101, 120, 116, 32, 106, 111, 105, 110, 32, 103, 101, 116, 32, 112, 117, 116, 32, 104, 97, 115, 32, 100, 101, 108, 32, 107, 101, 121, 115, 32, 115, 105, 122, 101, 32, 105, 115, 32, 105, 115, 118, 97, 108, 117, 101]
def yJ : List Str := Lib.fields aDn

theorem bOx {X : Ctx} {w : World} {h : List AObj} {l : Str} {v : Value} (r : RV X w h (.s l) v) : v = .string ⟨l.toArray⟩ := by
 cases r with
 | s => rfl
 | dead hr _ _ => simp [AV.refs] at hr
theorem bCp {vs : Array Value} (h : 2 = vs.size) : ∃ a b, vs = #[a, b] := by
 match vs, h with
 | ⟨[a, b]⟩, _ => exact ⟨a, b, rfl⟩
theorem aUr {vs : Array Value} (h : 1 = vs.size) : ∃ a, vs = #[a] := by
 match vs, h with
 | ⟨[a]⟩, _ => exact ⟨a, rfl⟩

theorem bIb (s : Str) (c : Int) : CT 232 [.s s, .i .u8 c] (.i .i64 (Z9 s c)) := by
 refine ⟨by kernel_rfl, g0, ?_⟩
 intro F w vs hF hgl hl hr
 obtain ⟨v0, v1, rfl⟩ := bCp hl
 have h0 := bOx (hr 0 _ v0 rfl rfl)
 have h1 := rF (hr 1 _ v1 rfl rfl)
 subst h0 h1
 refine (Tryz.strings_IndexByte ⟨s.toArray⟩ c w).mono ?_
 rintro e w' ⟨rfl, rfl⟩
 exact ⟨_, F, [], rfl, .refl _, fun _ h => h, fun _ h => .inl h, hF, RR.val (.i _ _), eC, by simp⟩

theorem aTb {F : Nat → Prop} {w : World} {g : Nat} {cells : List AV} (r : RV (.none F) w [] (.box cells 0) (.pointer (some ⟨g, 0, Option.none⟩))) {j : Nat} {k : IntKind} {n : Int} (h : cells[j]? = some (.i k n)) : w.cell? ⟨g, j, none⟩ = some (.int k n) := by
 generalize hv : Value.pointer (some ⟨g, 0, Option.none⟩) = v at r
 cases r with
 | @box _ _ b o cs T fr hF hb hl h1 hr =>
   simp only [Value.pointer.injEq, aA, Addr.mk.injEq, and_true] at hv
   obtain ⟨rfl, h0⟩ := hv
   have ho : o = 0 := by omega
   subst ho
   have hj := aM h
   have hc : cs[0 + j]? = some cs[0 + j] := bP (by omega)
   have := rF (hr j _ _ h hc)
   simp only [dB] at this hc
   simp [World.cell?, hb, hc, this]
 | dead hr hd _ => simp [AV.refs] at hr
theorem aGv {F : Nat → Prop} {w : World} (hgl : ∀ k a, G0 k = some a → GRel (.none F) w [] k a) (c : Nat) (hc : c < 256) : w.cell? ⟨0, c, none⟩ = some (.int .u8 (if Lib.isSp (UInt8.ofNat c) then 1 else 0)) := by
 have r := (hgl 0 (.box uI 0) rfl).1
 refine aTb r ?_
 have h := Lib.asciiSpaceTab_at c hc
 have hl := Lib.asciiSpaceTab_length
 rw [← h]
 exact P9 (by omega)
theorem bNn (s : Str) (hs : s.length ≤ 4000000000) (ha : s.all (fun b => decide (b.toNat < 128)) = true) : CT 196 [.s s] (.own 1 ((Lib.fields s).map .s) (Lib.fields s).length) := by
 refine ⟨by kernel_rfl, g0, ?_⟩
 intro F w vs hF hgl hl hr
 obtain ⟨v0, rfl⟩ := aUr hl
 have h0 := bOx (hr 0 _ v0 rfl rfl)
 subst h0
 refine (Any.strings_Fields_core Tryz.lays157 (by kernel_rfl) ⟨s.toArray⟩ w (by simp [ByteArray.size]; omega) (fun j b hj => ?_) (fun c hc => aGv hgl c hc)).mono ?_
 · have hm := cA hj
   have := aU.1 ha b hm
   simpa using this
 · rintro e w' ⟨rfl, rfl⟩
   refine ⟨_, F, [w.heap.size], rfl, (fM.alloc _ _).grew, fun _ h => h, fun _ h => .inl h, fun b hb => eH (hF b hb) (fM.alloc w _).grew.size, ?_, by simp, ?_⟩
   · refine .inl ⟨w.heap.size, 0, _, _, (Lib.fields s).length, rfl, rfl, (fM.alloc _ _).at, by simp, bG _, by simp, ?_, ?_⟩
     · intro j v hj hv
       simp at hv
       obtain ⟨x, _, rfl⟩ := hv
       rfl
     · intro j a v ha hv
       simp at ha hv
       obtain ⟨x, h1, rfl⟩ := ha
       obtain ⟨y, h2, rfl⟩ := hv
       rw [h1] at h2; cases h2
       exact .s _
   · intro b hb
     simp only [cL] at hb
     subst hb
     refine ⟨fun f => ?_, bG _⟩
     have := hF _ f; omega

def aFc (l : List Str) : List Str := l.mergeSort fun x y => decide (x ≤ y)
end Go.Proofs.YtifefbhllfdmlaaGreatDoor
namespace Go.Proofs.YtifefbhllfdmlaaGreatDoor
open Go Go.Vo
open Nat (reduceAdd reduceSub reduceMul reduceLeDiff reduceLT reduceEqDiff)
open Int (reduceNeg)

theorem aGo : yJ.length = 28 := by decide +kernel
theorem aTa (s : Str) : yJ.contains s = hX.contains s := by
 have h1 : yJ.all (fun x => hX.contains x) = true := by decide +kernel
 have h2 : hX.all (fun x => yJ.contains x) = true := by decide +kernel
 rw [dC]
 simp only [aU] at h1 h2
 exact ⟨fun h => h1 s (by simpa using h), fun h => h2 s (by simpa using h)⟩
theorem bFj : CT 196 [.s [97, 100, 100, 32, 115, 117, 98, 32, 109, 117, 108, 32, 100, 105, 118, 32, 109, 111, 100, 32, 110, 101, 103, 32, 108, 116, 32, 108, 101, 32, 103, 116, 32, 103, 101, 32, 101, 113, 32, 110, 101, 32, 97, 110, 100, 32, 111, 114, 32, 110, 111, 116, 32, 112, 105, 99, 107, 32, 99, 97, 116, 32, 108, 101, 110, 103, 116, 104, 32, 116, 101, 120, 116, 32, 106, 111, 105, 110, 32, 103, 101, 116, 32, 112, 117, 116, 32, 104, 97, 115, 32, 100, 101, 108, 32, 107, 101, 121, 115, 32, 115, 105, 122, 101, 32, 105, 115, 32, 105, 115, 118, 97, 108, 117, 101]] (.own 1 (yJ.map .s) yJ.length) := bNn aDn (by decide) (by decide +kernel)
theorem bAl (s : Str): CT 147 [.s s] (.b (hX.contains s)) := by
 refine aF mixed Tryz.func147 g0 ?_
 · skip
   refine aX bFj (by rfl) ?_
   refine zg ?_
   (refine zs1 (zN yJ s (by rw [aGo]; omega)) ?_; repeat' first | exact trivial | refine zJ ?_ ?_ | refine zH fun hc => ?_)
   refine aE ?_ (by rfl)
   rw [aTa]

def isValue (s : bX) (a : Str) : Bool := s.values.any fun v => iM s a v
def oE (s : bX) (x : Str × Str) : Bool := decide (x.1 ≠ mM) && dA s x.1 && s.sorts.contains x.2 && !(U7 s x.2).contains x.1
theorem bNv (s : bX) (x : Str × Str) (hs : Small s): CT 89 [cB s, elB x] (.b (oE s x)) := by
 refine aF mixed Tryz.func89 g0 ?_
 · skip
   have hl := tE s.below x.2
   have h2 := hs.below
   have h1 := hs.sorts
   by_cases hx : (keysOf s).contains x.2 = true
   · obtain ⟨i, hf, hv⟩ := G4 hx
     (repeat' (first | refine gT ?_ ?_ | refine gF ?_ ?_ | refine gC ?_ ?_ | ((first | (refine aX (H8 s x.1) ?_ ?_; (focus (simp -implicitDefEqProofs (disch := omega) only [hf, hv, ups, zdA, go_sem, simprocAttr]; done))) | (refine aX (zN s.sorts x.2 (by omega)) ?_ ?_; (focus (simp -implicitDefEqProofs (disch := omega) only [hf, hv, ups, zdA, go_sem, simprocAttr]; done))) | (refine aX (zN (climb s.below x.2) x.1 (by omega)) ?_ ?_; (focus (simp -implicitDefEqProofs (disch := omega) only [hf, hv, ups, zdA, go_sem, simprocAttr]; done)))); simp -implicitDefEqProofs (disch := omega) only [hf, hv, ups, go_sem, simprocAttr]) | refine aZ (by omega) ?_ | (intro hr; have hc := hr; (try simp only [zdz] at hc); simp -implicitDefEqProofs (disch := omega) only [hr, hf, hv, ups, go_sem, simprocAttr]; (try clear hr))))
     all_goals (refine aE ?_ (by rfl))
     all_goals (simp_all [oE, U7, dA, mM])
   · have hx := fH.2 hx
     (refine zx3 (qH hx) (H8 s x.1) (zN s.sorts x.2) (zN [] x.1 (by simp)) ?_; repeat' first | exact trivial | refine zJ ?_ ?_ | refine zH fun hc => ?_)
     all_goals (refine aE ?_ (by rfl))
     all_goals (simp_all [oE, U7, dA, mM])
end Go.Proofs.YtifefbhllfdmlaaGreatDoor
namespace Go.Proofs.YtifefbhllfdmlaaGreatDoor
open Go Go.Vo
open Nat (reduceAdd reduceSub reduceMul reduceLeDiff reduceLT reduceEqDiff)
open Int (reduceNeg)

def kS (n : Int) : Bool := !(decide (n < 33) || decide (126 < n) || part n || (decide (n = 34) || decide (n = 39) || decide (n = 92)))
def sX (s : Str) : Bool := decide (1 ≤ s.length) && decide (s.length ≤ 20) && s.all fun c => kS c.toNat
theorem aDr (s : Str) (k : Nat) : 0 ≤ at_ s k ∧ at_ s k < 256 := by
 unfold at_
 have := (s.getD k 0).toNat_lt
 omega
theorem bSv (s : Str) (k : Nat) : decide (0 ≤ Z9 [34, 39, 92] (at_ s k)) = (decide (at_ s k = 34) || decide (at_ s k = 39) || decide (at_ s k = 92)) := by
 have h : ∀ n : Nat, n < 256 → decide (0 ≤ Z9 [34, 39, 92] (n : Int)) = (decide ((n : Int) = 34) || decide ((n : Int) = 39) || decide ((n : Int) = 92)) := by decide +kernel
 exact h _ (s.getD k 0).toNat_lt
theorem bIf (s : Str) (hs : s.length ≤ 140737488355328): CT 198 [.s s] (.b (sX s)) := by
 refine aF mixed Tryz.func198 g0 ?_
 · skip
   (refine zs0 ?_; repeat' first | exact trivial | refine zJ ?_ ?_ | refine zH fun hc => ?_)
   any_goals (refine aE ?_ (by rfl); simp_all [sX] <;> omega)
   refine bT (fun (k : Nat) => [.k, .k, .j, .j, .j, .k, .k, .k, .k, .k, .k, .k, .k, .k, .v (.i .i64 k), .j, .j, .j, .j, .j, .j, .j, .j, .j, .j, .j, .j, .j, .j, .j, .j, .j, .j, .j, .j, .j]) (fun k => []) (fun k => k ≤ s.length ∧ ∀ j, j < k → kS (at_ s j) = true) (fun k => s.length - k) (0) ⟨aG _, fun j h => by omega⟩ rfl (by simp [eQ]) ?_
   rintro k j ⟨hk, ha⟩
   have hr := aDr s k
   have h3 := bSv s k
   simp only [at_] at h3 hr
   refine zg ?_
   (refine zx2 h3 bFh (bIb [34, 39, 92] ((s.getD k 0).toNat : Int)) ?_; repeat' first | exact trivial | refine zJ ?_ ?_ | refine zH fun hc => ?_)
   · refine aE ?_ (by rfl)
     have h4 := h3.symm.trans (zt hc)
     rw [sX, jQ (j := k) (by omega) (by simp only [kS, at_, h4, cR, Bool.not_true]), Bool.and_false]
   · have h4 := h3.symm.trans (zf hc)
     exact ⟨k + 1, ⟨by omega, bE ha (by simp only [kS, at_, h4, cI]; simp_all)⟩, by omega, by simp⟩
   · refine aE ?_ (by rfl)
     rw [sX, jQ (j := k) (by omega) (by simp only [kS, at_, hc, cR, cQ, Bool.not_true]), Bool.and_false]
   · refine aE ?_ (by rfl)
     rw [sX, jQ (j := k) (by omega) (by simp only [kS, at_, hc, decide_true, cR, cQ, Bool.not_true]), Bool.and_false]
   · refine aE ?_ (by rfl)
     rw [sX, jQ (j := k) (by omega) (by simp only [kS, at_, hc, decide_true, cR, cQ, Bool.not_true]), Bool.and_false]
   · refine aE ?_ (by rfl)
     have h1 : k = s.length := by omega
     rw [sX, aEe (h1 ▸ ha)]
     simp; omega

def lJ (t : Str) : Bool := sX t || dM t && decide (t.length ≤ 20)
def nF (p : Str × Str) : Bool := decide (decide (p.2 = []) = lJ p.1) && !(!decide (p.2 = []) && !decide (p.1 = []))
def lU (l : List (Str × Str)) : List Str := (l.filter fun p => !decide (p.2 = [])).map (·.2)
def nU (o : LOp) : Bool := o.pieces.isEmpty || (o.pieces.all nF && decide (o.pieces.length ≤ 20) && decide (lU o.pieces = o.args))
theorem lT {l : List (Str × Str)} {k : Nat} (h : k < l.length) : lU (l.take (k + 1)) = lU (l.take k) ++ (if (l.getD k ([], [])).2 = [] then [] else [(l.getD k ([], [])).2]) := by
 rw [eX (d := ([], [])) h]
 simp only [lU, wK, aT]
 congr 1
 by_cases h2 : (l.getD k ([], [])).2 = []
 · rw [if_pos h2, List.filter_cons_of_neg (by simp only [h2]; decide)]; rfl
 · rw [if_neg h2, List.filter_cons_of_pos (by simp only [h2]; decide)]; rfl
theorem qL {l : List (Str × Str)} : (lU l).length ≤ l.length := by
 unfold lU; rw [kK]; exact List.length_filter_le _ _
theorem lC {n : Nat} : ((n : Int) ≤ 20) ↔ n ≤ 20 := by omega
theorem aFa {o : LOp} {k : Nat} (hk : k < o.pieces.length) (h : nF (o.pieces.getD k ([], [])) = false) : nU o = false := by
 have h1 : o.pieces.all nF = false := eL hk h
 have h2 : o.pieces ≠ [] := fun e => by simp [e] at hk
 simp [nU, h1, h2]
theorem bIo (o : LOp) (ho : OkO o): CT 151 [elO o] (.b (nU o)) := by
 refine aF mixed Tryz.func151 g0 ?_
 · skip
   have hp := ho.piecesT
   have hx := ho.args
   (refine zs0 ?_; repeat' first | exact trivial | refine zJ ?_ ?_ | refine zH fun hc => ?_)
   · refine aE ?_ (by rfl)
     have : o.pieces = [] := List.eq_nil_of_length_eq_zero (by omega)
     simp [nU, this]
   · refine bT (fun (s : Nat × AV × List AObj) => [.k, .k, .j, .v (s.2.1), .k, .j, .j, .k, .k, .k, .k, .k, .k, .k, .v (.i .i64 (s.1 : Nat)), .j, .j, .j, .j, .j, .j, .j, .j, .j, .j, .j, .j, .j, .j, .j, .j, .j, .j, .j, .j, .j, .j, .j, .j, .j, .j, .j, .j, .j, .j, .j, .j, .j, .j, .j, .j, .j, .j, .j, .j, .j, .k, .k, .k, .k, .k, .k, .k, .k, .k, .k]) (fun s => .box false (bA o) :: s.2.2) (fun s => s.1 ≤ o.pieces.length ∧ (∀ j, j < s.1 → nF (o.pieces.getD j ([], [])) = true) ∧ eZ 1 1 s.2.2 s.2.1 ((lU (o.pieces.take s.1)).map .s) (lU (o.pieces.take s.1)).length) (fun s => o.pieces.length - s.1) ((0, .e0, [])) ⟨aG _, fun j h => by simp at h, kU⟩ rfl (by simp [eQ]) ?_
     rintro ⟨k, out, g⟩ j ⟨hk, ha, ho2⟩
     dsimp only at hk ha ho2
     have hpl : k < o.pieces.length → (o.pieces.getD k ([], [])).1.length ≤ 140737488355328 := fun h => (ho.piecesS _ (aV h)).1
     have hal := qL (l := o.pieces.take k)
     rw [jL] at hal
     refine zg ?_
     (repeat' (first | refine gT ?_ ?_ | refine gF ?_ ?_ | refine gC ?_ ?_ | ((first | (refine aX (bIf (o.pieces.getD k ([], [])).1 (hpl (by omega))) ?_ ?_; (focus (simp -implicitDefEqProofs (disch := omega) only [zdA, go_sem, simprocAttr]; done))) | (refine aX (H9 (o.pieces.getD k ([], [])).1 (hpl (by omega))) ?_ ?_; (focus (simp -implicitDefEqProofs (disch := omega) only [zdA, go_sem, simprocAttr]; done)))); simp -implicitDefEqProofs (disch := omega) only [go_sem, simprocAttr]) | refine aZ (by omega) ?_ | (intro hr; have hc := hr; (try simp only [zdz] at hc); simp -implicitDefEqProofs (disch := omega) only [hr, go_sem, simprocAttr]; (try clear hr))))
     all_goals first | (exfalso; omega) | skip
     all_goals first | (refine aE ?_ (by rfl); rw [aFa (k := k) (by omega) (by simp_all [nF, lJ, List.length_eq_zero_iff, lC])]; done) | skip
     all_goals first | (refine ⟨(k + 1, out, _), ⟨by omega, bE ha (by simp_all [nF, lJ, List.length_eq_zero_iff, lC]), ?_⟩, by simp; omega, rfl, rfl, by simp⟩; dsimp only; rw [lT (by omega), if_pos (List.eq_nil_of_length_eq_zero (by assumption)), List.append_nil]; exact ho2.more _) | skip
     · refine fN (pre := [_]) (news := [.s (o.pieces.getD k ([], [])).2]) (m := 1) ho2 rfl rfl bAg zo9 sz9 by9 rfl (by decide) (by simp -implicitDefEqProofs (disch := omega) only [go_sem, simprocAttr]) (by simp -implicitDefEqProofs (disch := omega) only [go_sem, simprocAttr]) ⟨by omega, by omega⟩ ?_
       intro out' g' ho' _
       refine zg ?_
       refine ⟨(k + 1, out', g'), ⟨by omega, bE ha (by simp_all [nF, lJ, List.length_eq_zero_iff, lC]), ?_⟩, by simp; omega, rfl, by simp⟩
       dsimp only
       rw [lT (by omega), if_neg (by rw [← List.length_eq_zero_iff]; assumption), aT, aI]
       exact ho'
     · refine fN (pre := [_]) (news := [.s (o.pieces.getD k ([], [])).2]) (m := 1) ho2 rfl rfl bAg zo9 sz9 by9 rfl (by decide) (by simp -implicitDefEqProofs (disch := omega) only [go_sem, simprocAttr]) (by simp -implicitDefEqProofs (disch := omega) only [go_sem, simprocAttr]) ⟨by omega, by omega⟩ ?_
       intro out' g' ho' _
       refine zg ?_
       refine ⟨(k + 1, out', g'), ⟨by omega, bE ha (by simp_all [nF, lJ, List.length_eq_zero_iff, lC]), ?_⟩, by simp; omega, rfl, by simp⟩
       dsimp only
       rw [lT (by omega), if_neg (by rw [← List.length_eq_zero_iff]; assumption), aT, aI]
       exact ho'
     · have hk2 : k = o.pieces.length := by omega
       have hne : o.pieces ≠ [] := fun e => by simp_all
       have hemp : o.pieces.isEmpty = false := by simpa using hne
       have hall : o.pieces.all nF = true := iT (d := ([], [])) (fun j hj => ha j (by omega))
       rw [aS (by omega)] at ho2
       have hal := qL (l := o.pieces)
       rcases ho2 with ⟨rfl, hnil, _⟩ | ⟨i0, rfl, hg, _⟩
       · have hnil : lU o.pieces = [] := by simpa using hnil
         (refine zs1 (bFk [] o.args (by simp) hx) ?_; repeat' first | exact trivial | refine zJ ?_ ?_ | refine zH fun hc => ?_)
         refine aE ?_ (by rfl)
         rw [nU, hemp, hall, hnil, zt (lC.1 hc)]; simp
       · (refine zx1 hg (bFk (lU o.pieces) o.args (by omega) hx) ?_; repeat' first | exact trivial | refine zJ ?_ ?_ | refine zH fun hc => ?_)
         refine aE ?_ (by rfl)
         rw [nU, hemp, hall, zt (lC.1 hc)]; simp
     · refine aE ?_ (by rfl)
       have hne : o.pieces ≠ [] := fun e => by simp_all
       simp_all [nU, lC]
       omega
end Go.Proofs.YtifefbhllfdmlaaGreatDoor
namespace Go.Proofs.YtifefbhllfdmlaaGreatDoor
open Go Go.Vo
open Nat (reduceAdd reduceSub reduceMul reduceLeDiff reduceLT reduceEqDiff)
open Int (reduceNeg)

theorem qD {s : bX} : persL [cB s] = true := by
 show (pers (cB s) && true) = true
 rw [pI]; rfl
def xM (o : LOp) (i : Int) : Bool := decide (1 ≤ i) && decide (i ≤ o.args.length)
theorem O9 (o : LOp) : persL (bA o) = true := by simp only [bA, persL, pers, xG, P0, avb, iD, dQ]
theorem bIr (i : Int) (o : LOp): CT 148 [.i .i64 i, .box (bA o) 0] (.b (xM o i)) := by
 refine aF mixed Tryz.func148 g0 ?_
 · skip
   (refine zs0 ?_; repeat' first | exact trivial | refine zJ ?_ ?_ | refine zH fun hc => ?_)
   all_goals (refine aE ?_ (by rfl))
   all_goals first | (simp_all [xM]; done) | (simp_all [xM]; omega)
def aJd (o : LOp) : Bool := decide (0 ≤ o.prec) && decide (o.prec ≤ 20) && (decide (0 < o.pieces.length) || decide (o.prec = 0))
def aAo (o : LOp) : Bool := decide (0 ≤ o.assoc) && decide (o.assoc ≤ 2) && (decide (0 < o.prec) || decide (o.assoc = 0))
def opHead (s : bX) (o : LOp) : Bool := dM (qR o.name) && !hX.contains o.name && decide (o.args.length ≤ 8) && o.args.all (dA s) && s.sorts.contains o.sort
def aOh (s : bX) (o : LOp) : Bool := opHead s o && aJd o && aAo o && o.strict.all (xM o) && decide o.strict.Nodup && nU o
def Z8 (s : bX) (o : LOp) : Bool := dM o.name && !hX.contains o.name && decide (o.args.length ≤ 8) && o.args.all (dA s) && dA s o.sort && (decide (o.pieces.length = 0) && decide (o.prec = 0) && decide (o.assoc = 0) && decide (o.strict.length = 0))
theorem bBb {n : Nat} : (8 < (n : Int)) ↔ ¬ n ≤ 8 := by omega
theorem aSw {n : Nat} : ((n : Int) ≤ 8) ↔ n ≤ 8 := by omega
theorem aMv {n : Nat} : (0 < (n : Int)) ↔ 0 < n := by omega
theorem bOc {n : Nat} : ((n : Int) = 0) ↔ n = 0 := by omega
theorem bNt (s : bX) (o : LOp) (hs : Small s) (ho : OkO o): CT 93 [cB s, elO o] (.b (Z8 s o)) := by
 refine aF mixed Tryz.func93 g0 ?_
 · skip
   (refine zs4 (H9 o.name ho.name) (bAl o.name) (aSa o.args 90 [cB s] [] (dA s) ho.args qD rfl (fun k hk => H8 s (o.args.getD k []))) (H8 s o.sort) ?_; repeat' first | exact trivial | refine zJ ?_ ?_ | refine zH fun hc => ?_)
   all_goals (refine aE ?_ (by rfl))
   all_goals simp only [aSw, bOc] at *
   all_goals simp only [Z8, *, decide_true, decide_false, Bool.and_true, Bool.true_and, Bool.and_false, Bool.false_and, Bool.not_true, Bool.not_false, cR, cQ, cI, cZ]
end Go.Proofs.YtifefbhllfdmlaaGreatDoor
namespace Go.Proofs.YtifefbhllfdmlaaGreatDoor
open Go Go.Vo
open Nat (reduceAdd reduceSub reduceMul reduceLeDiff reduceLT reduceEqDiff)
open Int (reduceNeg)

theorem bNu (s : bX) (o : LOp) (hs : Small s) (ho : OkO o): CT 92 [cB s, elO o] (.b (aOh s o)) := by
 refine aF mixed Tryz.func92 g0 ?_
 · skip
   have hb := dU (I7 o.name) ho.name
   have h1 := hs.sorts
   (repeat' (first | refine gT ?_ ?_ | refine gF ?_ ?_ | refine gC ?_ ?_ | ((first | (refine aX (aWb o.name ho.name) ?_ ?_; (focus (simp -implicitDefEqProofs (disch := omega) only [zdA, go_sem, simprocAttr]; done))) | (refine aX (H9 (qR o.name) hb) ?_ ?_; (focus (simp -implicitDefEqProofs (disch := omega) only [zdA, go_sem, simprocAttr]; done))) | (refine aX (bAl o.name) ?_ ?_; (focus (simp -implicitDefEqProofs (disch := omega) only [zdA, go_sem, simprocAttr]; done))) | (refine aX (aSa o.args 90 [cB s] [] (dA s) ho.args qD rfl (fun k hk => H8 s (o.args.getD k []))) ?_ ?_; (focus (simp -implicitDefEqProofs (disch := omega) only [zdA, go_sem, simprocAttr]; done))) | (refine aX (zN s.sorts o.sort (by omega)) ?_ ?_; (focus (simp -implicitDefEqProofs (disch := omega) only [zdA, go_sem, simprocAttr]; done))) | (refine aX (bIq o.strict 148 [] [.box (bA o) 0] (xM o) ho.strict rfl (by simp only [persL, pers, O9, dQ]) (fun k hk => bIr (o.strict.getD k 0) o)) ?_ ?_; (focus (simp -implicitDefEqProofs (disch := omega) only [zdA, go_sem, simprocAttr]; done))) | (refine aX (bIp o.strict ho.strict) ?_ ?_; (focus (simp -implicitDefEqProofs (disch := omega) only [zdA, go_sem, simprocAttr]; done))) | (refine aX (bIo o ho) ?_ ?_; (focus (simp -implicitDefEqProofs (disch := omega) only [zdA, go_sem, simprocAttr]; done)))); simp -implicitDefEqProofs (disch := omega) only [go_sem, simprocAttr]) | refine aZ (by omega) ?_ | (intro hr; have hc := hr; (try simp only [zdz] at hc); simp -implicitDefEqProofs (disch := omega) only [hr, go_sem, simprocAttr]; (try clear hr))))
   all_goals (refine aE ?_ (by rfl))
   all_goals try simp only [bBb, aMv, Decidable.not_not] at *
   all_goals first | (exfalso; omega) | skip
   all_goals simp only [aOh, opHead, aJd, aAo, *, decide_true, decide_false, Bool.and_true, Bool.true_and, Bool.and_false, Bool.false_and, Bool.not_true, Bool.not_false, cR, cQ, cI, cZ]
   all_goals first | (simp; done) | (simp_all; done) | (simp_all; omega)
end Go.Proofs.YtifefbhllfdmlaaGreatDoor
namespace Go.Proofs.YtifefbhllfdmlaaGreatDoor
open Go Go.Vo
open Nat (reduceAdd reduceSub reduceMul reduceLeDiff reduceLT reduceEqDiff)
open Int (reduceNeg)

attribute [go_sem] List.replicate_zero cK
end Go.Proofs.YtifefbhllfdmlaaGreatDoor
namespace Go.Proofs.YtifefbhllfdmlaaGreatDoor
open Go Go.Vo
open Nat (reduceAdd reduceSub reduceMul reduceLeDiff reduceLT reduceEqDiff)
open Int (reduceNeg)

def uZ (x : Str) : Bool := dM x && !fU.contains x
def mQ (s : bX) : List Str := s.ops.map LOp.name ++ s.funs.map LOp.name
def mZ (s : bX) : Bool := decide (s.sorts.length ≤ 40) && decide (s.below.length ≤ 200) && decide (s.ops.length + s.funs.length ≤ 200) && decide s.below.Nodup && decide s.values.Nodup
def nS (s : bX) : Bool := decide s.sorts.Nodup && s.sorts.all uZ && decide (mQ s).Nodup
def pE (s : bX) : Bool := s.below.all (oE s) && s.values.all (dA s) && s.ops.all (aOh s) && s.funs.all (Z8 s)
def cV (s : bX) : Bool := mZ s && nS s && pE s
theorem xX {s : bX} (h1 : s.sorts.Nodup) (h2 : s.sorts.all uZ = true) (h3 : (mQ s).Nodup) : J9 s := by
 refine ⟨?_, ?_, ?_⟩
 · unfold keysOf
   rw [lD]
   refine ⟨by decide, h1, ?_⟩
   intro a ha b hb hab
   subst hab
   have := aU.1 h2 a hb
   simp only [uZ, aB, cO] at this
   have h4 : fU.contains a = true := by simpa using ha
   rw [h4] at this
   cases this.2
 · unfold mQ at h3
   exact (lD.1 h3).1
 · unfold mQ at h3
   exact (lD.1 h3).2.1
theorem gD {s : bX} (h : cV s = true) : J9 s := by
 simp only [cV, nS, aB, decide_eq_true_eq] at h
 exact xX h.1.2.1.1 h.1.2.1.2 h.1.2.2

theorem aLa (s : bX) (ho : OkS s) : ∀ k, k < s.sorts.length → CT 82 ([] ++ [.s (s.sorts.getD k [])] ++ []) (.b (uZ (s.sorts.getD k []))) := fun k hk => bNx _ (ho.sortsS _ (aV hk))
theorem aJi {a b : List AV} : persL (a ++ b) = (persL a && persL b) := by
 induction a with
 | nil => simp [persL]
 | cons x l ih => simp [persL, ih, mE]
theorem bGg (s : bX) (h : (mQ s).length ≤ 140737488355328) : CT 81 [.sl ((s.ops.map LOp.name).map .s ++ (s.funs.map LOp.name).map .s) (s.ops.length + s.funs.length)] (.b (decide (mQ s).Nodup)) := by
 have := bAj (mQ s) h
 simpa only [avs, mQ, aT, aI, kK] using this
theorem aXa {α β γ : Type} {f : β → γ} {g : α → β} {a b : List α} : ((a.map g).map f ++ (b.map g).map f).take (a.length + b.length) = (a.map g).map f ++ (b.map g).map f := aS (by simp)
attribute [go_sem] aJi aXa
theorem aGh (s : bX) (hs : Small s) (ho : OkS s): CT 47 [.agg (aO s)] (.b (cV s)) := by
 refine aF mixed Tryz.func47 g0 ?_
 · skip
   have h1 := hs.sorts
   have h2 := hs.below
   have h3 := hs.ops
   have h4 := hs.funs
   have h5 := hs.values
   (refine zs2 (bNy s.below ho.below) (bAj s.values ho.values) ?_; repeat' first | exact trivial | refine zJ ?_ ?_ | refine zH fun hc => ?_)
   all_goals first | (refine aE ?_ (by rfl); simp only [cV, mZ]; simp_all; done) | (refine aE ?_ (by rfl); simp only [cV, mZ]; simp_all; omega) | skip
   (repeat' (first | refine gT ?_ ?_ | refine gF ?_ ?_ | refine gC ?_ ?_ | ((first | (refine aX (bAj s.sorts ho.sorts) ?_ ?_; (focus (simp -implicitDefEqProofs (disch := omega) only [zdA, go_sem, simprocAttr]; done))) | (refine aX (aSa s.sorts 82 [] [] uZ ho.sorts rfl rfl (aLa s ho)) ?_ ?_; (focus (simp -implicitDefEqProofs (disch := omega) only [zdA, go_sem, simprocAttr]; done))) | (refine aX (bFq s.ops ho.opsT) ?_ ?_; (focus (simp -implicitDefEqProofs (disch := omega) only [zdA, go_sem, simprocAttr]; done))) | (refine aX (bFq s.funs ho.funsT) ?_ ?_; (focus (simp -implicitDefEqProofs (disch := omega) only [zdA, go_sem, simprocAttr]; done))) | (refine aX (bGg s (by simp only [mQ, aI, kK]; omega)) ?_ ?_; (focus (simp -implicitDefEqProofs (disch := omega) only [zdA, go_sem, simprocAttr]; done)))); simp -implicitDefEqProofs (disch := omega) only [go_sem, simprocAttr]) | refine aZ (by omega) ?_ | (intro hr; have hc := hr; (try simp only [zdz] at hc); simp -implicitDefEqProofs (disch := omega) only [hr, go_sem, simprocAttr]; (try clear hr))))
   all_goals first | (refine aE ?_ (by rfl); simp only [cV, nS, *, decide_true, decide_false, Bool.and_false, Bool.false_and]; done) | skip
   (repeat' (first | refine gT ?_ ?_ | refine gF ?_ ?_ | refine gC ?_ ?_ | ((first | (refine aX (S5 s hs (xX (by assumption) (by assumption) (by assumption))) ?_ ?_; (focus (simp -implicitDefEqProofs (disch := omega) only [zdA, go_sem, simprocAttr]; done))) | (refine aX (bNw s.below 89 [cB s] [] (oE s) ho.below qD rfl (fun k hk => bNv s (s.below.getD k ([], [])) hs)) ?_ ?_; (focus (simp -implicitDefEqProofs (disch := omega) only [zdA, go_sem, simprocAttr]; done))) | (refine aX (aSa s.values 90 [cB s] [] (dA s) ho.values qD rfl (fun k hk => H8 s (s.values.getD k []))) ?_ ?_; (focus (simp -implicitDefEqProofs (disch := omega) only [zdA, go_sem, simprocAttr]; done))) | (refine aX (bFp s.ops 92 [cB s] [] (aOh s) ho.ops qD rfl (fun k hk => bNu s (s.ops.getD k default) hs (ho.opsO (s.ops.getD k default) (aV hk)))) ?_ ?_; (focus (simp -implicitDefEqProofs (disch := omega) only [zdA, go_sem, simprocAttr]; done))) | (refine aX (bFp s.funs 93 [cB s] [] (Z8 s) ho.funs qD rfl (fun k hk => bNt s (s.funs.getD k default) hs (ho.funsO (s.funs.getD k default) (aV hk)))) ?_ ?_; (focus (simp -implicitDefEqProofs (disch := omega) only [zdA, go_sem, simprocAttr]; done)))); simp -implicitDefEqProofs (disch := omega) only [go_sem, simprocAttr]) | refine aZ (by omega) ?_ | (intro hr; have hc := hr; (try simp only [zdz] at hc); simp -implicitDefEqProofs (disch := omega) only [hr, go_sem, simprocAttr]; (try clear hr))))
   all_goals first | (refine aE ?_ (by rfl); simp only [cV, nS, pE, *, decide_true, decide_false, Bool.and_false, Bool.false_and]; done) | skip
   all_goals refine aE ?_ (by rfl)
   all_goals simp only [cV, mZ, nS, pE, *, decide_true, Bool.and_true, Bool.true_and]
   all_goals (simp; omega)
end Go.Proofs.YtifefbhllfdmlaaGreatDoor
namespace Go.Proofs.YtifefbhllfdmlaaGreatDoor
open Go Go.Vo
open Nat (reduceAdd reduceSub reduceMul reduceLeDiff reduceLT reduceEqDiff)
open Int (reduceNeg)

def bOv (s a b : Str) : Str := if s = a then b else if s = b then a else s
def bCw (s a b : Str) : Str := bOv (qR s) a b ++ frame s
def bCz (s : bX) (a b x : Str) : Str := if s.sorts.contains x then bOv x a b else x
end Go.Proofs.YtifefbhllfdmlaaGreatDoor
namespace Go.Proofs.YtifefbhllfdmlaaGreatDoor
open Go Go.Vo
open Nat (reduceAdd reduceSub reduceMul reduceLeDiff reduceLT reduceEqDiff)
open Int (reduceNeg)

def bQi (o : LOp) : Nat := o.args.length + o.pieces.length + o.strict.length
def oM (l : List LOp) : Nat := (l.map bQi).sum
def few (s : bX) : Bool := decide (s.sorts.length ≤ 60) && decide (s.below.length ≤ 250) && decide (s.ops.length + s.funs.length ≤ 250) && decide (s.values.length ≤ 100) && decide (oM (s.ops ++ s.funs) ≤ 3000)
@[simp] theorem bJq : oM [] = 0 := rfl
theorem aVg {s : bX} (h : 60 < s.sorts.length ∨ 250 < s.below.length ∨ 250 < s.ops.length + s.funs.length ∨ 100 < s.values.length ∨ 3000 < oM (s.ops ++ s.funs)) : few s = false := by
 unfold few
 simp only [gI, decide_eq_false_iff_not]
 omega
theorem bAd {s : bX} (h : s.sorts.length ≤ 60 ∧ s.below.length ≤ 250 ∧ s.ops.length + s.funs.length ≤ 250 ∧ s.values.length ≤ 100 ∧ oM (s.ops ++ s.funs) ≤ 3000) : few s = true := by
 unfold few
 simp only [aB, decide_eq_true_eq]
 omega
theorem aGn {l : List LOp} {k : Nat} (h : k < l.length) : oM (l.take (k + 1)) = oM (l.take k) + bQi (l.getD k default) := by
 rw [eX (d := default) h]; simp [oM]
theorem aSz {l : List LOp} {k : Nat} : oM (l.take k) ≤ oM l := by
 have h : oM (l.take k ++ l.drop k) = oM l := by rw [gH]
 unfold oM at *
 rw [aT, List.sum_append] at h
 omega
theorem bOa (s : bX) (hs : OkS s): CT 36 [.agg (aO s)] (.b (few s)) := by
 refine dS (rx := true) (th := fun _ => none) mixed Tryz.func36 g0 ?_
 · simp -implicitDefEqProofs (disch := omega) only [Tryz.f36, go_sem, List.replicate, simprocAttr]
   have h1 := hs.sorts
   have h2 := hs.below
   have h3 := hs.ops
   have h4 := hs.funs
   have h5 := hs.values
   (refine zs0 ?_; repeat' first | exact trivial | refine zJ ?_ ?_ | refine zH fun hc => ?_)
   all_goals first | (refine aE ?_ (by rfl); rw [aVg (by omega)]; done) | skip
   rw [← uM, ← aI]
   have hL : (s.ops ++ s.funs).length = s.ops.length + s.funs.length := aI
   have hO : ∀ x ∈ s.ops ++ s.funs, OkO x := fun x hx => (bY.1 hx).elim (hs.opsO x) (hs.funsO x)
   have hfin : oM (s.ops ++ s.funs) ≤ 3000 → few s = true := fun h => bAd ⟨by omega, by omega, by omega, by omega, h⟩
   have hfin2 : 3000 < oM (s.ops ++ s.funs) → few s = false := fun h => aVg (by omega)
   generalize s.ops ++ s.funs = L at hL hO hfin hfin2
   refine dV (fun (k : Nat) => [.k, .k, .j, .v (.i .i64 (oM (L.take k) : Nat)), .k, .j, .k, .k, .k, .k, .k, .k, .k, .k, .k, .k, .k, .k, .k, .k, .k, .k, .k, .k, .k, .k, .k, .k, .k, .k, .k, .k, .k, .k, .k, .k, .k, .k, .k, .k, .v (.i .i64 k), .j, .j, .j, .j, .j, .j, .j, .j, .j, .j, .j, .j, .j, .j, .j, .j, .j, .j, .j]) (fun k => [.box false [.sl (s.sorts.map .s) s.sorts.length, .sl (s.below.flatMap bU) s.below.length, .sl (s.ops.flatMap bA) s.ops.length, .sl (s.funs.flatMap bA) s.funs.length, .sl (s.values.map .s) s.values.length], .dead, .arr false 7 (L.flatMap bA)]) (fun k => k ≤ L.length ∧ oM (L.take k) ≤ 3000) (fun k => L.length - k) (0) _ ⟨aG _, by simp [oM]⟩ rfl (by simp [eQ]) ?_
   rintro k g j ⟨hk, hb⟩
   have ho : k < L.length → (L.getD k default).args.length ≤ 140737488355328 ∧ (L.getD k default).pieces.length ≤ 140737488355328 ∧ (L.getD k default).strict.length ≤ 140737488355328 := fun h => ⟨(hO _ (aV h)).args, (hO _ (aV h)).pieces, (hO _ (aV h)).strict⟩
   have hs1 : k < L.length → oM (L.take (k + 1)) = oM (L.take k) + ((L.getD k default).args.length + (L.getD k default).pieces.length + (L.getD k default).strict.length) := fun h => aGn h
   have hle := aSz (l := L) (k := k + 1)
   refine zg ?_
   (refine zs0 ?_; repeat' first | exact trivial | refine zJ ?_ ?_ | refine zH fun hc => ?_)
   · refine aE ?_ (by rfl)
     have := hs1 (by omega)
     rw [hfin2 (by omega)]
   · have h1 := hs1 (by omega)
     refine ⟨k + 1, _, ⟨by omega, by omega⟩, by omega, rfl, ?_⟩
     rw [h1]; simp
   · refine aE ?_ (by rfl)
     have hk2 : k = L.length := by omega
     subst hk2
     rw [iB] at hb
     rw [hfin hb]
end Go.Proofs.YtifefbhllfdmlaaGreatDoor
namespace Go.Proofs.YtifefbhllfdmlaaGreatDoor
open Go Go.Vo
open Nat (reduceAdd reduceSub reduceMul reduceLeDiff reduceLT reduceEqDiff)
open Int (reduceNeg)

def uY (x : Str) : Bool := dM x && !mW.contains x
theorem U2 (x : Str) : fU.contains x = mW.contains x := by
 have h1 : fU.all (fun x => mW.contains x) = true := by decide +kernel
 have h2 : mW.all (fun x => fU.contains x) = true := by decide +kernel
 rw [dC]
 simp only [aU] at h1 h2
 exact ⟨fun h => h1 x (by simpa using h), fun h => h2 x (by simpa using h)⟩
def uQ (s : bX) : Bool := s.sorts.all uY && decide (s.sorts.length ≤ 40) && decide s.sorts.Nodup
theorem aDl {n : Nat} : ((n : Int) ≤ 40) ↔ n ≤ 40 := by omega
theorem bNs (s : bX) (hs : OkS s): CT 102 [.agg (aO s)] (.b (uQ s)) := by
 refine aF mixed Tryz.func102 g0 ?_
 · skip
   have h1 := hs.sorts
   refine dV (fun (k : Nat) => [.k, .k, .j, .k, .j, .k, .k, .k, .v (.i .i64 k), .j, .j, .j, .j, .j, .j, .j, .j, .j, .j, .j, .j, .k, .k, .k, .k, .k, .k, .k, .k, .k]) (fun k => [.box false [.sl (s.sorts.map .s) s.sorts.length, .sl (s.below.flatMap bU) s.below.length, .sl (s.ops.flatMap bA) s.ops.length, .sl (s.funs.flatMap bA) s.funs.length, .sl (s.values.map .s) s.values.length]]) (fun k => k ≤ s.sorts.length ∧ ∀ j, j < k → uY (s.sorts.getD j []) = true) (fun k => s.sorts.length - k) (0) _ ⟨aG _, fun j h => by omega⟩ rfl (by simp [eQ]) ?_
   rintro k g j ⟨hk, ha⟩
   have hpl : k < s.sorts.length → (s.sorts.getD k []).length ≤ 140737488355328 := fun h => hs.sortsS _ (aV h)
   refine zg ?_
   (repeat' (first | refine gT ?_ ?_ | refine gF ?_ ?_ | refine gC ?_ ?_ | ((first | refine cE (S8 (s.sorts.getD k []) (hpl (by omega))) ?_ | refine cE (bAi) ?_ | refine cE (vP mW (s.sorts.getD k []) (by decide)) ?_ | refine cE (aRz s.sorts h1) ?_); simp -implicitDefEqProofs (disch := omega) only [go_sem, simprocAttr]) | refine aZ (by omega) ?_ | (intro hr; have hc := hr; (try simp only [zdz] at hc); simp -implicitDefEqProofs (disch := omega) only [hr, go_sem, simprocAttr]; (try clear hr))))
   · refine aE ?_ (by rfl)
     rw [uQ, eL (d := []) (j := k) (by omega) (by simp only [uY, *, Bool.not_true, Bool.and_false])]; rfl
   · exact ⟨k + 1, _, ⟨by omega, bE ha (by simp only [uY, *, Bool.not_false, Bool.and_true])⟩, by omega, rfl, by simp⟩
   · refine aE ?_ (by rfl)
     rw [uQ, eL (d := []) (j := k) (by omega) (by simp only [uY, *, Bool.false_and])]; rfl
   · refine aE ?_ (by rfl)
     have hall : s.sorts.all uY = true := iT (d := []) (fun j hj => ha j (by omega))
     rw [uQ, hall, zt (aDl.1 hc)]; rfl
   · refine aE ?_ (by rfl)
     rw [aDl] at hc
     rw [uQ, zf hc]; simp
def aAr (s : bX) (o : LOp) : Bool := o.args.all (gM s) && decide (o.args.length ≤ 8)
theorem aVz (s : bX) (o : LOp) (hs : s.sorts.length ≤ 140737488355328) (ho : o.args.length ≤ 140737488355328): CT 167 [.agg (aO s), elO o] (.b (aAr s o)) := by
 refine aF mixed Tryz.func167 g0 ?_
 · skip
   refine dV (fun (k : Nat) => [.k, .k, .k, .k, .j, .k, .j, .k, .k, .k, .v (.i .i64 k), .j, .j, .j, .j, .j, .j, .j, .j, .k, .k, .k, .k]) (fun k => [.box false [.sl (s.sorts.map .s) s.sorts.length, .sl (s.below.flatMap bU) s.below.length, .sl (s.ops.flatMap bA) s.ops.length, .sl (s.funs.flatMap bA) s.funs.length, .sl (s.values.map .s) s.values.length], .box false (bA o)]) (fun k => k ≤ o.args.length ∧ ∀ j, j < k → gM s (o.args.getD j []) = true) (fun k => o.args.length - k) (0) _ ⟨aG _, fun j h => by omega⟩ rfl (by simp [eQ]) ?_
   rintro k g j ⟨hk, ha⟩
   refine zg ?_
   (refine zs1 (aGg s (o.args.getD k []) hs) ?_; repeat' first | exact trivial | refine zJ ?_ ?_ | refine zH fun hc => ?_)
   · refine aE ?_ (by rfl)
     rw [aAr, eL (d := []) (j := k) (by omega) hc]; rfl
   · exact ⟨k + 1, _, ⟨by omega, bE ha hc⟩, by omega, rfl, by simp⟩
   · refine aE ?_ (by rfl)
     have hall : o.args.all (gM s) = true := iT (d := []) (fun j hj => ha j (by omega))
     rw [aAr, hall]; simp; omega
theorem aKw {α : Type} {l : List α} {i : Nat} {d : α} (h : i < l.length) : l.getD i d = l[i] := by simp [List.getD, h]
def rJ (o : LOp) : Bool := o.strict.all (xM o) && decide o.strict.Nodup
theorem bIm (o : LOp) (ho : OkO o): CT 169 [elO o] (.b (rJ o)) := by
 refine aF mixed Tryz.func169 g0 ?_
 · skip
   have h1 := ho.strict
   have h2 := ho.args
   refine bT (fun (k : Nat) => [.k, .k, .j, .j, .j, .k, .j, .k, .k, .k, .v (.i .i64 k), .j, .j, .j, .j, .j, .j, .j, .j, .j, .j, .j, .j, .j, .j, .j, .j, .j, .j, .j, .j, .j, .j, .j, .j, .j, .j, .j]) (fun k => [.box false (bA o)]) (fun k => k ≤ o.strict.length ∧ ∀ j, j < k → (xM o (o.strict.getD j 0) = true ∧ (o.strict.take j).contains (o.strict.getD j 0) = false)) (fun k => o.strict.length - k) (0) ⟨aG _, fun j h => by omega⟩ rfl (by simp [eQ]) ?_
   rintro k j ⟨hk, ha⟩
   refine zg ?_
   (refine zs0 ?_; repeat' first | exact trivial | refine zJ ?_ ?_ | refine zH fun hc => ?_)
   · refine aE ?_ (by rfl)
     rw [rJ, eL (d := 0) (j := k) (by omega) (by unfold xM; rw [zf (p := o.strict.getD k 0 ≤ _) (by omega), Bool.and_false])]; rfl
   · refine bT (fun (m : Nat) => [.k, .k, .j, .k, .k, .k, .j, .k, .k, .k, .k, .k, .k, .k, .k, .k, .k, .k, .k, .k, .k, .k, .k, .k, .k, .k, .k, .k, .k, .v (.i .i64 m), .j, .j, .j, .j, .j, .j, .j, .k]) (fun m => [.box false (bA o)]) (fun m => m ≤ k ∧ ∀ j, j < m → (o.strict.take k).getD j 0 ≠ o.strict.getD k 0) (fun m => k - m) (0) ⟨aG _, fun j h => by omega⟩ rfl (by simp [eQ]) ?_
     rintro m j ⟨hm, hb⟩
     have hlt : (o.strict.take k).length = k := by simp; omega
     refine zh hlt ?_
     (refine zx0 hlt ?_; repeat' first | exact trivial | refine zJ ?_ ?_ | refine zH fun hc => ?_)
     · refine aE ?_ (by rfl)
       have hcon : (o.strict.take k).contains (o.strict.getD k 0) = true := by
         have hm2 := aV (l := o.strict.take k) (d := 0) (k := m) (by omega)
         rw [hc] at hm2
         simpa using hm2
       rw [rJ, zf (fun hn => by rw [lN hn (by omega)] at hcon; cases hcon), Bool.and_false]
     · exact ⟨m + 1, ⟨by omega, bE hb hc⟩, by omega, by simp⟩
     · have hmk : m = k := by omega
       subst hmk
       have hno : (o.strict.take m).contains (o.strict.getD m 0) = false := by
         rw [← Bool.not_eq_true]
         intro hcon
         have hm2 : o.strict.getD m 0 ∈ o.strict.take m := by simpa using hcon
         obtain ⟨i, hi, he⟩ := bR.1 hm2
         exact hb i (by omega) (by rw [aKw hi]; exact he)
       exact ⟨m + 1, ⟨by omega, bE ha ⟨by unfold xM; rw [zt (by omega), zt (by omega)]; rfl, hno⟩⟩, by omega, by simp⟩
   · refine aE ?_ (by rfl)
     rw [rJ, eL (d := 0) (j := k) (by omega) (by unfold xM; rw [zf (p := 1 ≤ _) (by omega), Bool.false_and])]; rfl
   · refine aE ?_ (by rfl)
     have h3 : k = o.strict.length := by omega
     have hall : o.strict.all (xM o) = true := iT (d := 0) (fun j hj => (ha j (by omega)).1)
     rw [rJ, hall, zt (sQ (d := 0) (fun j hj => (ha j (by omega)).2))]; rfl
def kB (n : Int) : Bool := !(decide (n < 33) || decide (126 < n) || sU n || aLt n || decide (n = 95) || decide (n = 34) || decide (n = 39) || decide (n = 92))
def rD (s : Str) : Bool := decide (1 ≤ s.length) && decide (s.length ≤ 20) && (dM s || s.all fun c => kB c.toNat)
theorem bId (s : Str) (hs : s.length ≤ 140737488355328): CT 211 [.s s] (.b (rD s)) := by
 refine aF mixed Tryz.func211 g0 ?_
 · skip
   (refine zs1 (S8 s hs) ?_; repeat' first | exact trivial | refine zJ ?_ ?_ | refine zH fun hc => ?_)
   · refine aE ?_ (by rfl)
     rw [rD, zf (p := s.length ≤ 20) (by omega)]; simp
   · refine aE ?_ (by rfl)
     rw [rD, zt (p := s.length ≤ 20) (by omega), zt (p := 1 ≤ s.length) (by omega), hc]; rfl
   · refine bT (fun (k : Nat) => [.k, .k, .j, .j, .j, .k, .k, .k, .k, .k, .k, .k, .k, .k, .k, .k, .k, .v (.i .i64 k), .j, .j, .j, .j, .j, .j, .j, .j, .j, .j, .j, .j, .j, .j, .j, .j, .j, .j, .j, .j, .j, .j, .j, .j, .j, .j, .j, .j, .j, .j, .j, .j, .j, .j, .j, .j]) (fun k => []) (fun k => k ≤ s.length ∧ ∀ j, j < k → kB (at_ s j) = true) (fun k => s.length - k) (0) ⟨aG _, fun j h => by omega⟩ rfl (by simp [eQ]) ?_
     rintro k j ⟨hk, ha⟩
     have hb : dM s = false := hc
     have hr := aDr s k
     simp only [at_] at hr
     refine zg ?_
     (refine zs2 bFg bFf ?_; repeat' first | exact trivial | refine zJ ?_ ?_ | refine zH fun hc => ?_)
     all_goals first | (refine aE ?_ (by rfl); rw [rD, hb, jQ (q := kB) (j := k) (by omega) (by simp only [kB, at_, *, decide_true, cR, cQ, Bool.not_true]), cI, Bool.and_false]; done) | skip
     · exact ⟨k + 1, ⟨by omega, bE ha (by simp only [kB, at_, *, decide_false, cI, Bool.not_false])⟩, by omega, by simp⟩
     · refine aE ?_ (by rfl)
       have h1 : k = s.length := by omega
       rw [rD, aEe (q := kB) (h1 ▸ ha), zt (p := s.length ≤ 20) (by omega), zt (p := 1 ≤ s.length) (by omega), cR]; rfl
   · refine aE ?_ (by rfl)
     rw [rD, zf (p := 1 ≤ s.length) (by omega)]; simp
end Go.Proofs.YtifefbhllfdmlaaGreatDoor
namespace Go.Proofs.YtifefbhllfdmlaaGreatDoor
open Go Go.Vo
open Nat (reduceAdd reduceSub reduceMul reduceLeDiff reduceLT reduceEqDiff)
open Int (reduceNeg)

theorem bEp : ((4 : Int) = 0) = False := by decide
attribute [go_sem] ite_self bEp eP decide_true decide_false not_true_eq_false not_false_eq_true Bool.not_true Bool.not_false
def oX (r : Option LOp) : AV := match r with
 | some o => .tup [elO o, .b true]
 | none => .tup [elO default, .b false]
def G1 (s : bX) (x : Str) : Option LOp := s.ops.find? fun o => decide (o.name = x)
def xS (s : bX) (x : Str) : Option LOp := s.funs.find? fun o => decide (o.name = x)
theorem oH {l : List LOp} {x : Str} : ((l.map LOp.name).findIdx? fun y => decide (x = y)) = l.findIdx? fun o => decide (o.name = x) := by
 rw [List.findIdx?_map]; congr 1; funext o; simp [eq_comm]
theorem aCr {l : List LOp} {x : Str} : (∃ i o, (l.findIdx? fun o => decide (o.name = x)) = some i ∧ l.find? (fun o => decide (o.name = x)) = some o ∧ (l.map elO)[i]? = some (elO o)) ∨ ((l.findIdx? fun o => decide (o.name = x)) = none ∧ l.find? (fun o => decide (o.name = x)) = none) := by
 induction l with
 | nil => right; simp
 | cons a l ih =>
   by_cases h : a.name = x
   · left; exact ⟨0, a, by simp [gL, h], by simp [h], by simp⟩
   · rcases ih with ⟨i, o, h1, h2, h3⟩ | ⟨h1, h2⟩
     · left; exact ⟨i + 1, o, by simp [gL, h, h1], by simp [h, h2], by simpa using h3⟩
     · right; exact ⟨by simp [gL, h, h1], by simp [h, h2]⟩
theorem bFo (s : bX) (x : Str): CT 157 [cB s, .s x] (oX (G1 s x)) := by
 refine aF mixed Tryz.func157 g0 ?_
 · skip
   rcases aCr (l := s.ops) (x := x) with ⟨i, o, h1, h2, h3⟩ | ⟨h1, h2⟩
   · refine zh (zA2 @oH (zA2 h1 h3)) ?_
     exact aE (by simp only [oX, G1, h2]; rfl) (by simp only [pers, persL, iN, iD, fP, dQ])
   · refine zh (zA2 @oH h1) ?_
     have : oX (G1 s x) = .tup [elO default, .b false] := by simp only [oX, G1, h2]
     rw [this]
     exact .inr ⟨⟨⟨rfl, rfl, rfl, rfl, rfl, rfl, rfl, trivial⟩, rfl, trivial⟩, by decide, fun i hi => by cases hi⟩
theorem bNp (s : bX) (x : Str): CT 225 [cB s, .s x] (oX (xS s x)) := by
 refine aF mixed Tryz.func225 g0 ?_
 · skip
   rcases aCr (l := s.funs) (x := x) with ⟨i, o, h1, h2, h3⟩ | ⟨h1, h2⟩
   · refine zh (zA2 @oH (zA2 h1 h3)) ?_
     exact aE (by simp only [oX, xS, h2]; rfl) (by simp only [pers, persL, iN, iD, fP, dQ])
   · refine zh (zA2 @oH h1) ?_
     have : oX (xS s x) = .tup [elO default, .b false] := by simp only [oX, xS, h2]
     rw [this]
     exact .inr ⟨⟨⟨rfl, rfl, rfl, rfl, rfl, rfl, rfl, trivial⟩, rfl, trivial⟩, by decide, fun i hi => by cases hi⟩
def aMr (o : LOp) : AV := .agg [.s o.name, .own 1 (o.args.map .s) o.args.length, .s o.sort, .own 2 (o.pieces.flatMap bU) o.pieces.length, .i .i64 o.prec, .i .i64 o.assoc, .own 1 (o.strict.map (.i .i64)) o.strict.length]
def aRo (s : bX) (r : Option LOp) : AV := if cV s then (match r with | some o => .tup [aMr o, .i .i64 0] | none => .tup [elO default, .i .i64 4]) else .tup [elO default, .i .i64 2]
def aDx (s : bX) (xs : List Str) (b : Bool) : AV := if cV s then (if xs.all (dA s) then .tup [.b b, .i .i64 0] else .tup [.b false, .i .i64 13]) else .tup [.b false, .i .i64 2]
end Go.Proofs.YtifefbhllfdmlaaGreatDoor
namespace Go.Proofs.YtifefbhllfdmlaaGreatDoor
open Go Go.Vo
open Nat (reduceAdd reduceSub reduceMul reduceLeDiff reduceLT reduceEqDiff)
open Int (reduceNeg)

def aFu (s : bX) (p : Str → Bool) : List Str := aFc ((keysOf s).filter p)

theorem aIf {L L' : List Str} (h : L.Perm L') : aFc L = aFc L' := by
 unfold aFc
 refine List.Perm.eq_of_pairwise (le := fun x y : Str => x ≤ y) ?_ ?_ ?_ ?_
 · intro a b _ _ h1 h2; exact List.le_antisymm h1 h2
 · have := List.pairwise_mergeSort (le := fun x y : Str => decide (x ≤ y)) (fun a b c h1 h2 => by simp only [decide_eq_true_eq] at *; exact List.le_trans h1 h2) (fun a b => by simp only [bO, decide_eq_true_eq]; exact List.le_total a b) L
   simpa using this
 · have := List.pairwise_mergeSort (le := fun x y : Str => decide (x ≤ y)) (fun a b c h1 h2 => by simp only [decide_eq_true_eq] at *; exact List.le_trans h1 h2) (fun a b => by simp only [bO, decide_eq_true_eq]; exact List.le_total a b) L'
   simpa using this
 · exact ((List.mergeSort_perm L _).trans h).trans (List.mergeSort_perm L' _).symm
end Go.Proofs.YtifefbhllfdmlaaGreatDoor
namespace Go.Proofs.YtifefbhllfdmlaaGreatDoor
open Go Go.Vo
open Nat (reduceAdd reduceSub reduceMul reduceLeDiff reduceLT reduceEqDiff)
open Int (reduceNeg)

def aCi (s : bX) (x : Str) (l : List Str) : AV := if cV s then (if dA s x then .tup [.own 1 (l.map .s) l.length, .i .i64 0] else .tup [.sl [] 0, .i .i64 13]) else .tup [.sl [] 0, .i .i64 2]
end Go.Proofs.YtifefbhllfdmlaaGreatDoor
namespace Go.Proofs.YtifefbhllfdmlaaGreatDoor
open Go Go.Vo
open Nat (reduceAdd reduceSub reduceMul reduceLeDiff reduceLT reduceEqDiff)
open Int (reduceNeg)

end Go.Proofs.YtifefbhllfdmlaaGreatDoor
namespace Go.Proofs.YtifefbhllfdmlaaGreatDoor
open Go Go.Vo
open Nat (reduceAdd reduceSub reduceMul reduceLeDiff reduceLT reduceEqDiff)
open Int (reduceNeg)

end Go.Proofs.YtifefbhllfdmlaaGreatDoor
namespace Go.Proofs.YtifefbhllfdmlaaGreatDoor
open Go Go.Vo
open Nat (reduceAdd reduceSub reduceMul reduceLeDiff reduceLT reduceEqDiff)
open Int (reduceNeg)

def bAz (ps : Str → Str) (p : Str × Str) : Str × Str := (p.1, if p.2 = [] then [] else ps p.2)
def aMu (po ps : Str → Str) (o : LOp) : LOp := ⟨po o.name, o.args.map ps, ps o.sort, o.pieces.map (bAz ps), o.prec, o.assoc, o.strict⟩
end Go.Proofs.YtifefbhllfdmlaaGreatDoor
namespace Go.Proofs.YtifefbhllfdmlaaGreatDoor
open Go Go.Vo
open Nat (reduceAdd reduceSub reduceMul reduceLeDiff reduceLT reduceEqDiff)
open Int (reduceNeg)

def bBa (ps : Str → Str) (b : Str × Str) : Str × Str := (ps b.1, ps b.2)
def bAy (po ps : Str → Str) (s : bX) : bX := ⟨s.sorts.map ps, s.below.map (bBa ps), s.ops.map (aMu po ps), s.funs.map (aMu po ps), s.values.map ps⟩
end Go.Proofs.YtifefbhllfdmlaaGreatDoor
namespace Go.Proofs.YtifefbhllfdmlaaGreatDoor
open Go Go.Vo
open Nat (reduceAdd reduceSub reduceMul reduceLeDiff reduceLT reduceEqDiff)
open Int (reduceNeg)

def wY (s : bX) (a b : Str) : bX := bAy (fun x => bCw x a b) (bCz s a b) s
def bOw : bX := ⟨[], [], [], [], []⟩
def X3 (s : bX) (a b : Str) : AV := if cV s && dM a && dM b then (if cV (wY s a b) then .tup [.agg (aO (wY s a b)), .i .i64 0] else .tup [.agg (aO bOw), .i .i64 14]) else .tup [.agg (aO bOw), .i .i64 2]
theorem aIq {s : bX} {a b : Str} (h : (cV s && dM a && dM b) = true) (h2 : cV (wY s a b) = true) : X3 s a b = .tup [.agg (aO (wY s a b)), .i .i64 0] := by simp [X3, h, h2]
end Go.Proofs.YtifefbhllfdmlaaGreatDoor
namespace Go.Proofs.YtifefbhllfdmlaaGreatDoor
open Go Go.Vo
open Nat (reduceAdd reduceSub reduceMul reduceLeDiff reduceLT reduceEqDiff)
open Int (reduceNeg)

def uF : Str := [69, 120, 112]
def aSy : Str := [80, 103, 109]
def zD : Str := [73, 110, 116]
def aNa : Str := [70, 111, 111]
def aGm : Str := [112, 108, 117, 115]
def bJp : Str := [78, 111, 112, 101]
def aYd : LOp := ⟨aGm, [uF, uF], uF, [([], uF), ([43], []), ([], uF)], 5, 1, [1, 2]⟩
def iC : bX := ⟨[uF, aSy], [(zD, uF), (uF, aSy)], [aYd], [], [zD]⟩
def bLr : LOp := ⟨aGm, [aNa, aNa], aNa, [([], aNa), ([43], []), ([], aNa)], 5, 1, [1, 2]⟩
def bMk : bX := ⟨[aNa, aSy], [(zD, aNa), (aNa, aSy)], [bLr], [], [zD]⟩
theorem rX : cV iC = true := by decide +kernel
theorem aTi {s : bX} {xs : List Str} {b c : Bool} (h : cV s = true) (h2 : xs.all (dA s) = true) (hb : b = c) : aDx s xs b = .tup [.b c, .i .i64 0] := by subst hb; simp [aDx, h, h2]
theorem bOk {s : bX} {xs : List Str} {b : Bool} (h : cV s = true) (h2 : xs.all (dA s) = false) : aDx s xs b = .tup [.b false, .i .i64 13] := by simp [aDx, h, h2]
theorem a1 : aDx iC [zD, uF] (iM iC zD uF) = .tup [.b true, .i .i64 0] := aTi rX (by decide +kernel) (by decide +kernel)
theorem a2 : aDx iC [uF, zD] (iM iC uF zD) = .tup [.b false, .i .i64 0] := aTi rX (by decide +kernel) (by decide +kernel)
theorem a3 : aDx iC [uF] (isValue iC uF) = .tup [.b false, .i .i64 0] := aTi rX (by decide +kernel) (by decide +kernel)
theorem a4 : aDx iC [aSy, zD] (aKg iC aSy zD) = .tup [.b true, .i .i64 0] := aTi rX (by decide +kernel) (by decide +kernel)
theorem a5 : aDx iC [zD, bJp] (iM iC zD bJp) = .tup [.b false, .i .i64 13] := bOk rX (by decide +kernel)
theorem aIg {L M : List Str} (h : L.Perm M) (hM : M.Pairwise fun x y => x ≤ y) : aFc L = M := by
 rw [aIf h]
 unfold aFc
 refine List.mergeSort_of_pairwise ?_
 simpa using hM
theorem l1 : aFu iC (iM iC zD) = [mM, uF, zD, aSy] := by
 unfold aFu
 have : (keysOf iC).filter (iM iC zD) = [mM, zD, uF, aSy] := by decide +kernel
 rw [this]
 exact aIg (by decide +kernel) (by decide +kernel)
theorem l2 : aFu iC (fun y => iM iC y uF) = [uF, zD] := by
 unfold aFu
 have : (keysOf iC).filter (fun y => iM iC y uF) = [zD, uF] := by decide +kernel
 rw [this]
 exact aIg (by decide +kernel) (by decide +kernel)
theorem aUv {s : bX} {x : Str} {l m : List Str} (h : cV s = true) (h2 : dA s x = true) (hm : l = m) : aCi s x l = .tup [.own 1 (m.map .s) m.length, .i .i64 0] := by subst hm; simp [aCi, h, h2]
theorem b1 : aCi iC zD (aFu iC (iM iC zD)) = .tup [.own 1 [.s mM, .s uF, .s zD, .s aSy] 4, .i .i64 0] := aUv rX (by decide +kernel) l1
theorem b2 : aCi iC uF (aFu iC (fun y => iM iC y uF)) = .tup [.own 1 [.s uF, .s zD] 2, .i .i64 0] := aUv rX (by decide +kernel) l2
theorem f1 : aRo iC (G1 iC aGm) = .tup [aMr aYd, .i .i64 0] := by
 have : G1 iC aGm = some aYd := by decide +kernel
 rw [this]; simp only [aRo, if_pos rX]
theorem f2 : aRo iC (xS iC aGm) = .tup [elO default, .i .i64 4] := by
 have : xS iC aGm = none := by decide +kernel
 rw [this]; simp only [aRo, if_pos rX]
theorem r1 : X3 iC uF aNa = .tup [.agg (aO bMk), .i .i64 0] := by
 have h : wY iC uF aNa = bMk := by decide +kernel
 have h2 : cV bMk = true := by decide +kernel
 have h3 : (cV iC && dM uF && dM aNa) = true := by decide +kernel
 rw [← h, aIq h3 (h ▸ h2)]
end Go.Proofs.YtifefbhllfdmlaaGreatDoor
namespace Go.Proofs.YtifefbhllfdmlaaGreatDoor
open Go Go.Vo
open Nat (reduceAdd reduceSub reduceMul reduceLeDiff reduceLT reduceEqDiff)
open Int (reduceNeg)

end Go.Proofs.YtifefbhllfdmlaaGreatDoor
namespace Go.Proofs.YtifefbhllfdmlaaGreatDoor
open Go Go.Vo
open Nat (reduceAdd reduceSub reduceMul reduceLeDiff reduceLT reduceEqDiff)
open Int (reduceNeg)

def okR (p : Str × Str) : Bool := if p.2 = [] then rD p.1 else decide (p.1 = [])
def X7 (o : LOp) : Bool := if o.pieces = [] then decide (o.prec = 0) && decide (o.assoc = 0) else decide (o.pieces.length ≤ 20) && decide (lU o.pieces = o.args) && decide (0 ≤ o.prec) && decide (o.prec ≤ 20) && decide (0 ≤ o.assoc) && decide (o.assoc ≤ 2) && (decide (0 < o.prec) || decide (o.assoc = 0))
def oC (o : LOp) : Bool := o.pieces.all okR && X7 o
theorem bIn (o : LOp) (ho : OkO o): CT 168 [elO o] (.b (oC o)) := by
 refine aF mixed Tryz.func168 g0 ?_
 · skip
   have hp := ho.piecesT
   have hx := ho.args
   refine bT (fun (s : Nat × AV × List AObj) => [.k, .k, .j, .v (s.2.1), .k, .j, .k, .k, .k, .v (.i .i64 (s.1 : Nat)), .j, .j, .j, .j, .j, .j, .j, .j, .j, .j, .j, .j, .j, .j, .j, .j, .j, .j, .j, .j, .j, .j, .j, .j, .j, .j, .j, .k, .k, .k, .k, .k, .k, .k, .k, .k, .k, .k, .k, .k, .k, .k, .k, .k, .k, .k, .k, .k, .k, .k, .k, .k, .k, .k, .k, .k, .k, .k, .k, .k, .k, .k, .k, .k, .k, .k, .k, .k, .k, .k, .k, .k, .k, .k, .k, .k, .k, .k, .k]) (fun s => .box false (bA o) :: s.2.2) (fun s => s.1 ≤ o.pieces.length ∧ (∀ j, j < s.1 → okR (o.pieces.getD j ([], [])) = true) ∧ eZ 1 1 s.2.2 s.2.1 ((lU (o.pieces.take s.1)).map .s) (lU (o.pieces.take s.1)).length) (fun s => o.pieces.length - s.1) ((0, .e0, [])) ⟨aG _, fun j h => by simp at h, kU⟩ rfl (by simp [eQ]) ?_
   rintro ⟨k, out, g⟩ j ⟨hk, ha, ho2⟩
   dsimp only at hk ha ho2
   have hpl : k < o.pieces.length → (o.pieces.getD k ([], [])).1.length ≤ 140737488355328 := fun h => (ho.piecesS _ (aV h)).1
   have hal := qL (l := o.pieces.take k)
   rw [jL] at hal
   refine zg ?_
   (repeat' (first | refine gT ?_ ?_ | refine gF ?_ ?_ | refine gC ?_ ?_ | ((refine aX (bId (o.pieces.getD k ([], [])).1 (hpl (by omega))) ?_ ?_; (focus (simp -implicitDefEqProofs (disch := omega) only [zdA, go_sem, ↓reduceIte, reduceAdd, reduceSub, reduceMul, reduceLeDiff, reduceLT, reduceEqDiff, reduceNeg, Nat.reduceBEq]; done))); simp -implicitDefEqProofs (disch := omega) only [go_sem, ↓reduceIte, reduceAdd, reduceSub, reduceMul, reduceLeDiff, reduceLT, reduceEqDiff, reduceNeg, Nat.reduceBEq]) | refine aZ (by omega) ?_ | (intro hr; have hc := hr; (try simp only [zdz] at hc); simp -implicitDefEqProofs (disch := omega) only [hr, go_sem, ↓reduceIte, reduceAdd, reduceSub, reduceMul, reduceLeDiff, reduceLT, reduceEqDiff, reduceNeg, Nat.reduceBEq]; (try clear hr))))
   all_goals first | (exfalso; omega) | skip
   all_goals first | (refine aE ?_ (by rfl); rw [oC, eL (d := ([], [])) (j := k) (by omega) (by simp_all [okR, ← List.length_eq_zero_iff])]; rfl) | skip
   all_goals first | (refine ⟨(k + 1, out, _), ⟨by omega, bE ha (by simp_all [okR, ← List.length_eq_zero_iff]), ?_⟩, by simp; omega, rfl, rfl, by simp⟩; dsimp only; rw [lT (by omega), if_pos (List.eq_nil_of_length_eq_zero (by assumption)), List.append_nil]; exact ho2.more _) | skip
   · refine fN (pre := [_]) (news := [.s (o.pieces.getD k ([], [])).2]) (m := 1) ho2 rfl rfl bAg zo9 sz9 by9 rfl (by decide) (by simp -implicitDefEqProofs (disch := omega) only [go_sem, ↓reduceIte, reduceAdd, reduceSub, reduceMul, reduceLeDiff, reduceLT, reduceEqDiff, reduceNeg, Nat.reduceBEq]) (by simp -implicitDefEqProofs (disch := omega) only [go_sem, ↓reduceIte, reduceAdd, reduceSub, reduceMul, reduceLeDiff, reduceLT, reduceEqDiff, reduceNeg, Nat.reduceBEq]) ⟨by omega, by omega⟩ ?_
     intro out' g' ho' _
     refine zg ?_
     refine ⟨(k + 1, out', g'), ⟨by omega, bE ha (by simp_all [okR, ← List.length_eq_zero_iff]), ?_⟩, by simp; omega, rfl, by simp⟩
     dsimp only
     rw [lT (by omega), if_neg (by rw [← List.length_eq_zero_iff]; assumption), aT, aI]
     exact ho'
   · have he : o.pieces = [] := List.eq_nil_of_length_eq_zero (by omega)
     refine aE ?_ (by rfl)
     simp_all [oC, X7]
   · have he : o.pieces = [] := List.eq_nil_of_length_eq_zero (by omega)
     refine aE ?_ (by rfl)
     simp_all [oC, X7]
   · have hk2 : k = o.pieces.length := by omega
     have hne : o.pieces ≠ [] := fun e => by simp_all
     have hall : o.pieces.all okR = true := iT (d := ([], [])) (fun j hj => ha j (by omega))
     rw [aS (by omega)] at ho2
     have hal := qL (l := o.pieces)
     have h20 := lC.1 hc
     clear ha hpl
     rcases ho2 with ⟨rfl, hnil, _⟩ | ⟨i0, rfl, hg, _⟩
     · have hnil : lU o.pieces = [] := by simpa using hnil
       (refine zs1 (bFn [] o.args (by simp) hx) ?_; repeat' first | exact trivial | refine zJ ?_ ?_ | refine zH fun hc => ?_)
       all_goals refine aE ?_ (by rfl)
       all_goals simp only [oC, hall, X7, if_neg hne, hnil, Bool.true_and]
       all_goals first | (simp_all; done) | (simp_all; omega)
     · (refine zx1 hg (bFn (lU o.pieces) o.args (by omega) hx) ?_; repeat' first | exact trivial | refine zJ ?_ ?_ | refine zH fun hc => ?_)
       all_goals refine aE ?_ (by rfl)
       all_goals simp only [oC, hall, X7, if_neg hne, Bool.true_and]
       all_goals first | (simp_all; done) | (simp_all; omega)
   · refine aE ?_ (by rfl)
     have hne : o.pieces ≠ [] := fun e => by simp_all
     have h20 : ¬ o.pieces.length ≤ 20 := fun h => hc (lC.2 h)
     simp only [oC, X7, if_neg hne, zf h20, Bool.false_and, Bool.and_false]
end Go.Proofs.YtifefbhllfdmlaaGreatDoor
namespace Go.Proofs.YtifefbhllfdmlaaGreatDoor
open Go Go.Vo
open Nat (reduceAdd reduceSub reduceMul reduceLeDiff reduceLT reduceEqDiff)
open Int (reduceNeg)

def iF (s : bX) (b : Str × Str) : Bool := gM s b.1 && !decide (b.1 = mM) && s.sorts.contains b.2
def mV (s : bX) (b : Str × Str) : Bool := !(climb s.below b.2).contains b.1
def tJ (s : bX) : Bool := s.below.all (iF s) && decide s.below.Nodup && s.below.all (mV s) && decide (s.below.length ≤ 200)
theorem T6 {n : Nat} : ((n : Int) ≤ 200) ↔ n ≤ 200 := by omega
theorem rS {s : bX} {k : Nat} (hk : k < s.below.length) (h : iF s (s.below.getD k ([], [])) = false) : tJ s = false := by
 rw [tJ, eL hk h]; rfl
theorem bDx {a b : Str × Str} : (decide (a.1 = b.1) && (decide (a.2 = b.2) && true)) = decide (a = b) := by
 rw [dC]; simp [Prod.ext_iff]
theorem bNr (s : bX) (hs : OkS s) (hb : s.below.length ≤ 1000): CT 103 [.agg (aO s)] (.b (tJ s)) := by
 refine aF mixed Tryz.func103 g0 ?_
 · skip
   have h1 := hs.sorts
   have h2 := hs.below
   refine dV (fun (k : Nat) => [.k, .k, .j, .j, .j, .k, .j, .k, .k, .k, .k, .k, .v (.i .i64 k), .j, .j, .j, .j, .j, .j, .j, .j, .j, .j, .j, .j, .j, .j, .j, .j, .j, .j, .j, .j, .j, .j, .j, .j, .j, .j, .j, .j, .j, .j, .j, .j, .j, .j, .j, .j, .k, .k, .k, .k, .k, .k, .k, .k, .k, .k, .k, .k, .k, .k, .k, .k, .k, .k, .k]) (fun k => [.box false [.sl (s.sorts.map .s) s.sorts.length, .sl (s.below.flatMap bU) s.below.length, .sl (s.ops.flatMap bA) s.ops.length, .sl (s.funs.flatMap bA) s.funs.length, .sl (s.values.map .s) s.values.length]]) (fun k => k ≤ s.below.length ∧ ∀ j, j < k → (iF s (s.below.getD j ([], [])) = true ∧ (s.below.take j).contains (s.below.getD j ([], [])) = false)) (fun k => s.below.length - k) (0) _ ⟨aG _, fun j h => by omega⟩ rfl (by simp [eQ]) ?_
   rintro k g j ⟨hk, ha⟩
   refine zg ?_
   (refine zs2 (aGg s (s.below.getD k ([], [])).1 h1) (vP s.sorts (s.below.getD k ([], [])).2 h1) ?_; repeat' first | exact trivial | refine zJ ?_ ?_ | refine zH fun hc => ?_)
   · refine aE ?_ (by rfl)
     rw [rS (k := k) (by omega) (by simp only [iF, *, Bool.and_false])]
   · have hone : iF s (s.below.getD k ([], [])) = true := by simp only [iF, mM, *, decide_false, Bool.not_false, dQ]
     refine bT (fun (t : Nat × List AObj) => [.k, .k, .j, .k, .k, .k, .j, .k, .k, .k, .k, .k, .k, .k, .k, .k, .k, .k, .k, .k, .k, .k, .k, .k, .k, .k, .k, .k, .k, .k, .k, .k, .k, .k, .k, .k, .k, .k, .k, .k, .v (.i .i64 (t.1 : Nat)), .j, .j, .j, .j, .j, .j, .j, .k, .k, .k, .k, .k, .k, .k, .k, .k, .k, .k, .k, .k, .k, .k, .k, .k, .k, .k, .k]) (fun t => .box false [.sl (s.sorts.map .s) s.sorts.length, .sl (s.below.flatMap bU) s.below.length, .sl (s.ops.flatMap bA) s.ops.length, .sl (s.funs.flatMap bA) s.funs.length, .sl (s.values.map .s) s.values.length] :: (g ++ (.box false [.s (s.below.getD k ([], [])).1, .s (s.below.getD k ([], [])).2] :: t.2))) (fun t => t.1 ≤ k ∧ ∀ j, j < t.1 → (s.below.take k).getD j ([], []) ≠ s.below.getD k ([], [])) (fun t => k - t.1) ((0, [])) ⟨aG _, fun j h => by simp at h⟩ rfl (by simp [eQ]) ?_
     rintro ⟨m, g2⟩ j ⟨hm, hb2⟩
     dsimp only at hm hb2
     have hlt : (s.below.take k).length = k := by simp; omega
     refine zh hlt ?_
     (repeat' (first | refine gT ?_ ?_ | refine gF ?_ ?_ | refine gC ?_ ?_ | refine aZ (by omega) ?_ | (intro hr; have hc := hr; (try simp only [zdz] at hc); simp -implicitDefEqProofs (disch := omega) only [hr, hlt, go_sem, simprocAttr]; (try clear hr))))
     · refine aE ?_ (by rfl)
       rw [bDx] at hc
       have he := of_decide_eq_true hc
       have hm2 := aV (l := s.below.take k) (d := ([], [])) (k := m) (by omega)
       rw [← he] at hm2
       have hcon : (s.below.take k).contains (s.below.getD k ([], [])) = true := by simpa using hm2
       rw [tJ, zf (fun hn => by rw [lN hn (by omega)] at hcon; cases hcon), Bool.and_false]; rfl
     · rw [bDx] at hc
       have he := of_decide_eq_false hc
       exact ⟨(m + 1, _), ⟨by dsimp only; omega, bE hb2 (fun e => he e.symm)⟩, by dsimp only; omega, rfl, by simp⟩
     · have hmk : m = k := by omega
       subst hmk
       have hno : (s.below.take m).contains (s.below.getD m ([], [])) = false := by
         rw [← Bool.not_eq_true]
         intro hcon
         have hm2 : s.below.getD m ([], []) ∈ s.below.take m := by simpa using hcon
         obtain ⟨i, hi, he⟩ := bR.1 hm2
         exact hb2 i (by omega) (by rw [aKw hi]; exact he)
       exact ⟨m + 1, _, ⟨by omega, bE ha ⟨hone, hno⟩⟩, by omega, rfl, by simp⟩
   · refine aE ?_ (by rfl)
     rw [rS (k := k) (by omega) (by simp only [iF, mM, *, decide_true, Bool.not_true, Bool.and_false, Bool.false_and])]
   · refine aE ?_ (by rfl)
     rw [rS (k := k) (by omega) (by simp only [iF, *, Bool.false_and])]
   · have hall : s.below.all (iF s) = true := iT (d := ([], [])) (fun j hj => (ha j (by omega)).1)
     have hnd : s.below.Nodup := sQ (d := ([], [])) (fun j hj => (ha j (by omega)).2)
     clear ha
     refine dV (fun (k : Nat) => [.k, .k, .j, .k, .k, .k, .k, .k, .j, .k, .k, .k, .k, .k, .k, .k, .k, .k, .k, .k, .k, .k, .k, .k, .k, .k, .k, .k, .k, .k, .k, .k, .k, .k, .k, .k, .k, .k, .k, .k, .k, .k, .k, .k, .k, .k, .k, .k, .k, .k, .k, .k, .v (.i .i64 k), .j, .j, .j, .j, .j, .j, .j, .j, .j, .j, .j, .k, .k, .k, .k]) (fun k => [.box false [.sl (s.sorts.map .s) s.sorts.length, .sl (s.below.flatMap bU) s.below.length, .sl (s.ops.flatMap bA) s.ops.length, .sl (s.funs.flatMap bA) s.funs.length, .sl (s.values.map .s) s.values.length]]) (fun k => k ≤ s.below.length ∧ ∀ j, j < k → mV s (s.below.getD j ([], [])) = true) (fun k => s.below.length - k) (0) _ ⟨aG _, fun j h => by omega⟩ rfl (by simp [eQ]) ?_
     rintro k g j ⟨hk, ha⟩
     have hcl := tE s.below (s.below.getD k ([], [])).2
     refine zg ?_
     (refine zs2 (aWa s (s.below.getD k ([], [])).2) (vP (climb s.below (s.below.getD k ([], [])).2) (s.below.getD k ([], [])).1) ?_; repeat' first | exact trivial | refine zJ ?_ ?_ | refine zH fun hc => ?_)
     · refine aE ?_ (by rfl)
       rw [tJ, eL (p := mV s) (d := ([], [])) (j := k) (by omega) (by simp only [mV, hc, Bool.not_true]), Bool.and_false]; rfl
     · exact ⟨k + 1, _, ⟨by omega, bE ha (by simp only [mV, hc, Bool.not_false])⟩, by omega, rfl, by simp⟩
     · refine aE ?_ (by rfl)
       have hup : s.below.all (mV s) = true := iT (d := ([], [])) (fun j hj => ha j (by omega))
       rw [tJ, hall, hup, zt hnd]
       simp [T6]
end Go.Proofs.YtifefbhllfdmlaaGreatDoor
namespace Go.Proofs.YtifefbhllfdmlaaGreatDoor
open Go Go.Vo
open Nat (reduceAdd reduceSub reduceMul reduceLeDiff reduceLT reduceEqDiff)
open Int (reduceNeg)

def opR (s : bX) (o : LOp) : Bool := dM (qR o.name) && !hX.contains o.name && aAr s o && s.sorts.contains o.sort && oC o && rJ o
def aOi (s : bX) (o : LOp) : Bool := dM o.name && !hX.contains o.name && aAr s o && gM s o.sort && decide (o.pieces.length = 0) && decide (o.prec = 0) && decide (o.assoc = 0) && decide (o.strict.length = 0)
def jR (s : bX) : List Str := s.ops.map LOp.name ++ s.funs.map LOp.name
def aQd (s : bX) : Bool := s.ops.all (opR s) && s.funs.all (aOi s) && decide ((jR s).length ≤ 200) && decide (jR s).Nodup
theorem bEb {s : bX} {k : Nat} (hk : k < s.ops.length) (h : opR s (s.ops.getD k default) = false) : aQd s = false := by
 rw [aQd, eL hk h]; rfl
theorem aZq {s : bX} {k : Nat} (hk : k < s.funs.length) (h : aOi s (s.funs.getD k default) = false) : aQd s = false := by
 rw [aQd, eL (p := aOi s) hk h]; simp
theorem bNq (s : bX) (hs : OkS s) (hn : s.ops.length + s.funs.length ≤ 1000): CT 104 [.agg (aO s)] (.b (aQd s)) := by
 refine aF mixed Tryz.func104 g0 ?_
 · skip
   have h1 := hs.sorts
   refine bT (fun (t : Nat × AV × List AObj) => [.k, .k, .j, .v (t.2.1), .k, .j, .k, .k, .k, .k, .k, .v (.i .i64 (t.1 : Nat)), .j, .j, .j, .j, .j, .j, .j, .j, .j, .j, .j, .j, .j, .j, .j, .j, .j, .j, .j, .j, .j, .j, .j, .j, .j, .j, .j, .j, .j, .j, .j, .j, .j, .j, .j, .j, .j, .j, .j, .j, .j, .j, .k, .k, .k, .k, .k, .k, .k, .k, .k, .k, .k, .k, .k, .k, .k, .k, .k, .k, .k, .k, .k, .k, .k, .k, .k, .k, .k, .k, .k, .k, .k, .k, .k, .k, .k, .k, .k, .k, .k, .k, .k, .k, .k, .k, .k, .k, .k, .k, .k, .k, .k, .k, .k, .k, .k, .k, .k, .k, .k, .k, .k, .k, .k, .k]) (fun t => .box false [.sl (s.sorts.map .s) s.sorts.length, .sl (s.below.flatMap bU) s.below.length, .sl (s.ops.flatMap bA) s.ops.length, .sl (s.funs.flatMap bA) s.funs.length, .sl (s.values.map .s) s.values.length] :: t.2.2) (fun t => t.1 ≤ s.ops.length ∧ (∀ j, j < t.1 → opR s (s.ops.getD j default) = true) ∧ eZ 1 1 t.2.2 t.2.1 (((s.ops.take t.1).map LOp.name).map .s) t.1) (fun t => s.ops.length - t.1) ((0, .e0, [])) ⟨aG _, fun j h => by simp at h, kU⟩ rfl (by simp [eQ]) ?_
   rintro ⟨k, out, g⟩ j ⟨hk, ha, ho⟩
   dsimp only at hk ha ho
   have o1 : k < s.ops.length → OkO (s.ops.getD k default) := fun h => hs.opsO _ (aV h)
   refine zg ?_
   (refine zs0 ?_; repeat' first | exact trivial | refine zJ ?_ ?_ | refine zH fun hc => ?_)
   · refine fN (pre := [.box false [.sl (s.sorts.map .s) s.sorts.length, .sl (s.below.flatMap bU) s.below.length, .sl (s.ops.flatMap bA) s.ops.length, .sl (s.funs.flatMap bA) s.funs.length, .sl (s.values.map .s) s.values.length]]) (g := g ++ [.box false (bA (s.ops.getD k default))]) (more := [.arr false 1 ([.s (s.ops.getD k default).name])]) (news := [.s (s.ops.getD k default).name]) (m := 1) ((ho).more _) rfl (by simp -implicitDefEqProofs (disch := omega) only [go_sem, ↓reduceIte, reduceAdd, reduceSub, reduceMul, reduceLeDiff, reduceLT, reduceEqDiff, reduceNeg, Nat.reduceBEq]) bAg zo9 sz9 by9 rfl (by decide) (by simp -implicitDefEqProofs (disch := omega) only [go_sem, ↓reduceIte, reduceAdd, reduceSub, reduceMul, reduceLeDiff, reduceLT, reduceEqDiff, reduceNeg, Nat.reduceBEq]) (by simp -implicitDefEqProofs (disch := omega) only [go_sem, ↓reduceIte, reduceAdd, reduceSub, reduceMul, reduceLeDiff, reduceLT, reduceEqDiff, reduceNeg, Nat.reduceBEq]) ⟨by omega, by omega⟩ ?_
     intro out' g' ho' hkeep
     have hbox := hkeep g.length (.box false (bA (s.ops.getD k default))) (by rw [H0]; rfl) (fun c => nofun)
     clear hkeep
     have ho1 := o1 (by omega)
     refine zh hbox ?_
     (repeat' (first | refine gT ?_ ?_ | refine gF ?_ ?_ | refine gC ?_ ?_ | ((first | (refine aX (aMl (s.ops.getD k default).name ho1.name) ?_ ?_; (focus (simp -implicitDefEqProofs (disch := omega) only [hbox, zdA, go_sem, ↓reduceIte, reduceAdd, reduceSub, reduceMul, reduceLeDiff, reduceLT, reduceEqDiff, reduceNeg, Nat.reduceBEq]; done))) | (refine aX (bAk (s.ops.getD k default).name) ?_ ?_; (focus (simp -implicitDefEqProofs (disch := omega) only [hbox, zdA, go_sem, ↓reduceIte, reduceAdd, reduceSub, reduceMul, reduceLeDiff, reduceLT, reduceEqDiff, reduceNeg, Nat.reduceBEq]; done))) | (refine aX (aVz s (s.ops.getD k default) h1 ho1.args) ?_ ?_; (focus (simp -implicitDefEqProofs (disch := omega) only [hbox, zdA, go_sem, ↓reduceIte, reduceAdd, reduceSub, reduceMul, reduceLeDiff, reduceLT, reduceEqDiff, reduceNeg, Nat.reduceBEq]; done))) | (refine aX (vP s.sorts (s.ops.getD k default).sort h1) ?_ ?_; (focus (simp -implicitDefEqProofs (disch := omega) only [hbox, zdA, go_sem, ↓reduceIte, reduceAdd, reduceSub, reduceMul, reduceLeDiff, reduceLT, reduceEqDiff, reduceNeg, Nat.reduceBEq]; done))) | (refine aX (bIn (s.ops.getD k default) ho1) ?_ ?_; (focus (simp -implicitDefEqProofs (disch := omega) only [hbox, zdA, go_sem, ↓reduceIte, reduceAdd, reduceSub, reduceMul, reduceLeDiff, reduceLT, reduceEqDiff, reduceNeg, Nat.reduceBEq]; done))) | (refine aX (bIm (s.ops.getD k default) ho1) ?_ ?_; (focus (simp -implicitDefEqProofs (disch := omega) only [hbox, zdA, go_sem, ↓reduceIte, reduceAdd, reduceSub, reduceMul, reduceLeDiff, reduceLT, reduceEqDiff, reduceNeg, Nat.reduceBEq]; done)))); simp -implicitDefEqProofs (disch := omega) only [hbox, go_sem, ↓reduceIte, reduceAdd, reduceSub, reduceMul, reduceLeDiff, reduceLT, reduceEqDiff, reduceNeg, Nat.reduceBEq]) | refine aZ (by omega) ?_ | (intro hr; have hc := hr; (try simp only [zdz] at hc); simp -implicitDefEqProofs (disch := omega) only [hr, hbox, go_sem, ↓reduceIte, reduceAdd, reduceSub, reduceMul, reduceLeDiff, reduceLT, reduceEqDiff, reduceNeg, Nat.reduceBEq]; (try clear hr))))
     all_goals first | (refine aE ?_ (by rfl); rw [bEb (k := k) (by omega) (by simp only [opR, *, decide_true, decide_false, Bool.and_false, Bool.false_and, Bool.and_true, Bool.true_and, Bool.not_true, Bool.not_false])]; done) | skip
     refine ⟨(k + 1, out', g'), ⟨by dsimp only; omega, bE ha (by simp only [opR, *, decide_true, decide_false, Bool.and_false, Bool.false_and, Bool.and_true, Bool.true_and, Bool.not_true, Bool.not_false]), ?_⟩, by dsimp only; omega, rfl, rfl, by simp⟩
     dsimp only
     rw [eX (d := default) (by omega), aT, aT]
     exact ho'
   · have hk2 : k = s.ops.length := by omega
     have hall : s.ops.all (opR s) = true := iT (d := default) (fun j hj => ha j (by omega))
     rw [hk2, iB] at ho
     clear ha hk o1
     refine bT (fun (t : Nat × AV × List AObj) => [.k, .k, .j, .v (t.2.1), .k, .k, .k, .j, .k, .k, .k, .k, .k, .k, .k, .k, .k, .k, .k, .k, .k, .k, .k, .k, .k, .k, .k, .k, .k, .k, .k, .k, .k, .k, .k, .k, .k, .k, .k, .k, .k, .k, .k, .k, .k, .k, .k, .k, .k, .k, .k, .k, .k, .k, .k, .k, .k, .v (.i .i64 (t.1 : Nat)), .j, .j, .j, .j, .j, .j, .j, .j, .j, .j, .j, .j, .j, .j, .j, .j, .j, .j, .j, .j, .j, .j, .j, .j, .j, .j, .j, .j, .j, .j, .j, .j, .j, .j, .j, .j, .j, .j, .j, .j, .j, .j, .j, .j, .j, .j, .j, .j, .j, .j, .j, .j, .j, .k, .k, .k, .k, .k, .k, .k]) (fun t => .box false [.sl (s.sorts.map .s) s.sorts.length, .sl (s.below.flatMap bU) s.below.length, .sl (s.ops.flatMap bA) s.ops.length, .sl (s.funs.flatMap bA) s.funs.length, .sl (s.values.map .s) s.values.length] :: t.2.2) (fun t => t.1 ≤ s.funs.length ∧ (∀ j, j < t.1 → aOi s (s.funs.getD j default) = true) ∧ eZ 1 1 t.2.2 t.2.1 ((s.ops.map LOp.name).map .s ++ ((s.funs.take t.1).map LOp.name).map .s) (s.ops.length + t.1)) (fun t => s.funs.length - t.1) ((0, out, g)) ⟨aG _, fun j h => by simp at h, by simpa using ho⟩ rfl (by simp [eQ]) ?_
     clear ho hk2
     rintro ⟨k, out, g⟩ j ⟨hk, ha, ho⟩
     dsimp only at hk ha ho
     have o1 : k < s.funs.length → OkO (s.funs.getD k default) := fun h => hs.funsO _ (aV h)
     refine zg ?_
     (refine zs0 ?_; repeat' first | exact trivial | refine zJ ?_ ?_ | refine zH fun hc => ?_)
     · refine fN (pre := [.box false [.sl (s.sorts.map .s) s.sorts.length, .sl (s.below.flatMap bU) s.below.length, .sl (s.ops.flatMap bA) s.ops.length, .sl (s.funs.flatMap bA) s.funs.length, .sl (s.values.map .s) s.values.length]]) (g := g ++ [.box false (bA (s.funs.getD k default))]) (more := [.arr false 1 ([.s (s.funs.getD k default).name])]) (news := [.s (s.funs.getD k default).name]) (m := 1) ((ho).more _) rfl (by simp -implicitDefEqProofs (disch := omega) only [go_sem, ↓reduceIte, reduceAdd, reduceSub, reduceMul, reduceLeDiff, reduceLT, reduceEqDiff, reduceNeg, Nat.reduceBEq]) bAg zo9 sz9 by9 rfl (by decide) (by simp -implicitDefEqProofs (disch := omega) only [go_sem, ↓reduceIte, reduceAdd, reduceSub, reduceMul, reduceLeDiff, reduceLT, reduceEqDiff, reduceNeg, Nat.reduceBEq]) (by simp -implicitDefEqProofs (disch := omega) only [go_sem, ↓reduceIte, reduceAdd, reduceSub, reduceMul, reduceLeDiff, reduceLT, reduceEqDiff, reduceNeg, Nat.reduceBEq]) ⟨by omega, by omega⟩ ?_
       intro out' g' ho' hkeep
       have hbox := hkeep g.length (.box false (bA (s.funs.getD k default))) (by rw [H0]; rfl) (fun c => nofun)
       clear hkeep
       have ho1 := o1 (by omega)
       refine zh hbox ?_
       (refine zx4 hbox (S8 (s.funs.getD k default).name ho1.name) (bAk (s.funs.getD k default).name) (aVz s (s.funs.getD k default) h1 ho1.args) (aGg s (s.funs.getD k default).sort h1) ?_; repeat' first | exact trivial | refine zJ ?_ ?_ | refine zH fun hc => ?_)
       all_goals try simp only [aMv, Nat.pos_iff_ne_zero, Decidable.not_not] at *
       all_goals first | (refine aE ?_ (by rfl); rw [aZq (k := k) (by omega) (by simp only [aOi, *, decide_true, decide_false, Bool.and_false, Bool.false_and, Bool.and_true, Bool.true_and, Bool.not_true, Bool.not_false])]; done) | skip
       refine ⟨(k + 1, out', g'), ⟨by dsimp only; omega, bE ha (by simp only [aOi, *, decide_true, decide_false, Bool.and_false, Bool.false_and, Bool.and_true, Bool.true_and, Bool.not_true, Bool.not_false]), ?_⟩, by dsimp only; omega, rfl, rfl, by simp⟩
       dsimp only
       rw [eX (d := default) (by omega), aT, aT, ← bW]
       exact ho'
     · have hk2 : k = s.funs.length := by omega
       have hf : s.funs.all (aOi s) = true := iT (d := default) (fun j hj => ha j (by omega))
       rw [hk2, iB] at ho
       clear ha hk o1 hc hk2
       have hnl : (jR s).length = s.ops.length + s.funs.length := by simp [jR]
       have hop : aQd s = (decide ((jR s).length ≤ 200) && decide (jR s).Nodup) := by rw [aQd, hall, hf]; rfl
       have hcell : (s.ops.map LOp.name).map AV.s ++ (s.funs.map LOp.name).map AV.s = (jR s).map .s := by simp [jR]
       rw [hcell, ← hnl] at ho
       rcases ho with ⟨rfl, hnil, _⟩ | ⟨i0, rfl, hg, _⟩
       · have hnil : jR s = [] := by simpa using hnil
         simp -implicitDefEqProofs (disch := omega) only [go_sem, ↓reduceIte, reduceAdd, reduceSub, reduceMul, reduceLeDiff, reduceLT, reduceEqDiff, reduceNeg, Nat.reduceBEq]
         (repeat' (first | refine gT ?_ ?_ | refine gF ?_ ?_ | refine gC ?_ ?_ | ((refine aX (aRz [] (by simp)) ?_ ?_; (focus (simp -implicitDefEqProofs (disch := omega) only [zdA, go_sem, ↓reduceIte, reduceAdd, reduceSub, reduceMul, reduceLeDiff, reduceLT, reduceEqDiff, reduceNeg, Nat.reduceBEq]; done))); simp -implicitDefEqProofs (disch := omega) only [go_sem, ↓reduceIte, reduceAdd, reduceSub, reduceMul, reduceLeDiff, reduceLT, reduceEqDiff, reduceNeg, Nat.reduceBEq]) | refine aZ (by omega) ?_ | (intro hr; have hc := hr; (try simp only [zdz] at hc); simp -implicitDefEqProofs (disch := omega) only [hr, go_sem, ↓reduceIte, reduceAdd, reduceSub, reduceMul, reduceLeDiff, reduceLT, reduceEqDiff, reduceNeg, Nat.reduceBEq]; (try clear hr))))
         all_goals refine aE ?_ (by rfl)
         all_goals first | (exfalso; omega) | (rw [hop, hnil]; rfl)
       · refine zh hg ?_
         (refine zx1 hg (aRz (jR s)) ?_; repeat' first | exact trivial | refine zJ ?_ ?_ | refine zH fun hc => ?_)
         all_goals refine aE ?_ (by rfl)
         all_goals simp only [T6] at hc
         all_goals rw [hop]
         all_goals first | rw [zt hc, Bool.true_and] | rw [zf hc, Bool.false_and]
end Go.Proofs.YtifefbhllfdmlaaGreatDoor
namespace Go.Proofs.YtifefbhllfdmlaaGreatDoor
open Go Go.Vo
open Nat (reduceAdd reduceSub reduceMul reduceLeDiff reduceLT reduceEqDiff)
open Int (reduceNeg)

def M6 (s : bX) : Bool := decide (s.sorts.length ≤ 40) && decide (s.below.length ≤ 200) && decide (s.ops.length + s.funs.length ≤ 200) && uQ s && tJ s && aQd s && s.values.all (gM s) && decide s.values.Nodup
theorem exists_eq (s : bX) (x : Str) : gM s x = dA s x := by
 have := U2 x
 unfold gM dA keysOf
 rw [dC]
 have h2 := dC.1 this
 simp only [iJ] at h2
 simp [h2]
theorem O7 {t : Str} : lJ t = rD t := by
 unfold lJ rD sX
 have hc : (fun c : UInt8 => kS c.toNat) = fun c => kB c.toNat := by
   funext c
   simp only [kS, kB, part, Bool.or_assoc]
 rw [hc]
 have hn : dM t = true → 1 ≤ t.length := by
   intro h
   cases t with
   | nil => revert h; decide
   | cons a l => simp
 cases h : dM t
 · simp
 · have := hn h
   simp [this]
   by_cases h2 : t.length ≤ 20 <;> simp [h2]
theorem aPy (p : Str × Str) : nF p = okR p := by
 unfold nF okR
 rw [O7]
 have h0 : rD [] = false := by decide
 by_cases h2 : p.2 = []
 · simp [h2]
 · by_cases h1 : p.1 = []
   · simp [h2, h1, h0]
   · simp [h2, h1]
theorem bLs (s : bX) (o : LOp) : aOh s o = opR s o := by
 have hp : (fun p => nF p) = okR := by funext p; exact aPy p
 have hx : s.sorts.contains o.sort = s.sorts.contains o.sort := rfl
 have he : o.args.all (dA s) = o.args.all (gM s) := by congr 1; funext x; exact (exists_eq s x).symm
 unfold aOh opR opHead aAr oC rJ X7 aJd aAo nU
 rw [show nF = okR from hp, he]
 rw [dC]
 by_cases hz : o.pieces = []
 · simp only [hz, List.all_nil, bJ, eP, if_true, aB, decide_eq_true_eq, bO, cO]
   constructor
   · rintro h; simp_all; omega
   · rintro h; simp_all
 · have : o.pieces.isEmpty = false := by simpa using hz
   have hl : 0 < o.pieces.length := List.length_pos_iff.2 hz
   simp only [hz, this, hl, if_false, aB, decide_eq_true_eq, bO, cO, aP, false_or, true_or, and_true]
   constructor
   · rintro h; simp_all
   · rintro h; simp_all
theorem bEv (s : bX) (o : LOp) : Z8 s o = aOi s o := by
 have he : o.args.all (dA s) = o.args.all (gM s) := by congr 1; funext x; exact (exists_eq s x).symm
 unfold Z8 aOi aAr
 rw [he, exists_eq]
 rw [dC]
 simp only [aB, decide_eq_true_eq, cO]
 constructor
 · rintro h; simp_all
 · rintro h; simp_all
theorem aPa (s : bX) : uQ s = (s.sorts.all uZ && decide (s.sorts.length ≤ 40) && decide s.sorts.Nodup) := by
 unfold uQ
 have : uY = uZ := by funext x; simp only [uZ, uY, U2]
 rw [this]
theorem aNj (s : bX) (b : Str × Str) : (iF s b && mV s b) = oE s b := by
 unfold iF mV oE U7
 rw [exists_eq]
 by_cases h : s.sorts.contains b.2 = true
 · have h2 : dA s b.2 = true := by
     rw [← exists_eq]; unfold gM; rw [h, cR]
   rw [h, h2, if_pos rfl]
   rw [dC]; simp only [aB, cO, decide_eq_true_eq, decide_eq_false_iff_not]; exact ⟨fun ⟨⟨⟨a, b⟩, c⟩, d⟩ => ⟨⟨⟨b, a⟩, c⟩, d⟩, fun ⟨⟨⟨a, b⟩, c⟩, d⟩ => ⟨⟨⟨b, a⟩, c⟩, d⟩⟩
 · have h := fH.2 h
   rw [h]; simp
theorem bBo {α : Type} {p q : α → Bool} {l : List α} : (l.all p && l.all q) = l.all fun x => p x && q x := by
 induction l with
 | nil => rfl
 | cons x l ih =>
   simp only [jJ, ← ih]
   cases p x <;> cases q x <;> cases l.all p <;> cases l.all q <;> rfl
theorem aTe (s : bX) : tJ s = (s.below.all (oE s) && decide s.below.Nodup && decide (s.below.length ≤ 200)) := by
 have h : s.below.all (oE s) = (s.below.all (iF s) && s.below.all (mV s)) := by
   rw [bBo]; congr 1; funext b; exact (aNj s b).symm
 rw [h, tJ]
 cases s.below.all (iF s) <;> cases s.below.all (mV s) <;> simp
theorem aOq (s : bX) : M6 s = cV s := by
 have h1 : s.ops.all (aOh s) = s.ops.all (opR s) := by congr 1; funext x; exact bLs s x
 have h2 : s.funs.all (Z8 s) = s.funs.all (aOi s) := by congr 1; funext x; exact bEv s x
 have h3 : s.values.all (dA s) = s.values.all (gM s) := by congr 1; funext x; exact (exists_eq s x).symm
 have h4 : (jR s).length = s.ops.length + s.funs.length := by simp [jR]
 have h5 : mQ s = jR s := rfl
 unfold M6 cV mZ nS pE
 rw [aPa, aTe, aQd, h1, h2, h3, h4, h5]
 rw [dC]
 simp only [aB]
 constructor
 · rintro ⟨⟨⟨⟨⟨⟨⟨a, b⟩, c⟩, ⟨d, e⟩, f⟩, ⟨g, h⟩, i⟩, ⟨⟨j, k⟩, l⟩, m⟩, n⟩, o⟩
   exact ⟨⟨⟨⟨⟨⟨a, b⟩, c⟩, h⟩, o⟩, ⟨f, d⟩, m⟩, ⟨⟨g, n⟩, j⟩, k⟩
 · rintro ⟨⟨⟨⟨⟨⟨a, b⟩, c⟩, h⟩, o⟩, ⟨f, d⟩, m⟩, ⟨⟨g, n⟩, j⟩, k⟩
   exact ⟨⟨⟨⟨⟨⟨⟨a, b⟩, c⟩, ⟨d, a⟩, f⟩, ⟨g, h⟩, b⟩, ⟨⟨j, k⟩, c⟩, m⟩, n⟩, o⟩
theorem bSx {n : Nat} : (40 < (n : Int)) ↔ ¬ n ≤ 40 := by omega
theorem bMj {n : Nat} : (200 < (n : Int)) ↔ ¬ n ≤ 200 := by omega
theorem bEt {n m : Nat} : (200 < (n : Int) + m) ↔ ¬ n + m ≤ 200 := by omega
theorem bAr (s : bX) (hm : Small s) (hs : OkS s): CT 52 [.agg (aO s)] (.b (cV s)) := by
 refine aF mixed Tryz.func52 g0 ?_
 · skip
   have h1 := hm.sorts
   have h2 := hm.below
   have h3 := hm.ops
   have h4 := hm.funs
   have h5 := hm.values
   rw [← aOq]
   (refine zs3 (bNs s hs) (bNr s hs h2) (bNq s hs) ?_; repeat' first | exact trivial | refine zJ ?_ ?_ | refine zH fun hc => ?_)
   all_goals try simp only [bSx, bMj, bEt, Decidable.not_not] at *
   all_goals first | (refine aE ?_ (by rfl); simp only [M6, *, decide_true, decide_false, Bool.and_false, Bool.false_and, Bool.and_true, Bool.true_and, Bool.not_true, Bool.not_false]; done) | skip
   refine bT (fun (k : Nat) => [.k, .k, .j, .k, .j, .k, .k, .k, .k, .k, .k, .k, .k, .k, .k, .k, .k, .k, .k, .k, .k, .k, .k, .k, .k, .k, .k, .k, .k, .k, .k, .k, .k, .k, .k, .k, .k, .k, .k, .k, .k, .k, .k, .v (.i .i64 k), .j, .j, .j, .j, .j, .j, .j, .j, .k, .k, .k]) (fun k => [.box false [.sl (s.sorts.map .s) s.sorts.length, .sl (s.below.flatMap bU) s.below.length, .sl (s.ops.flatMap bA) s.ops.length, .sl (s.funs.flatMap bA) s.funs.length, .sl (s.values.map .s) s.values.length]]) (fun k => k ≤ s.values.length ∧ ∀ j, j < k → gM s (s.values.getD j []) = true) (fun k => s.values.length - k) (0) ⟨aG _, fun j h => by omega⟩ rfl (by simp [eQ]) ?_
   rintro k j ⟨hk, ha⟩
   refine zg ?_
   (refine zs2 (aGg s (s.values.getD k [])) (aRz s.values) ?_; repeat' first | exact trivial | refine zJ ?_ ?_ | refine zH fun hc => ?_)
   · refine aE ?_ (by rfl)
     have hno : s.values.all (gM s) = false := eL (d := []) (j := k) (by omega) hc
     rw [M6, hno]; simp
   · exact ⟨k + 1, ⟨by omega, bE ha hc⟩, by omega, by simp⟩
   · refine aE ?_ (by rfl)
     have hall : s.values.all (gM s) = true := iT (d := []) (fun j hj => ha j (by omega))
     simp only [M6, *, decide_true, decide_false, Bool.and_false, Bool.false_and, Bool.and_true, Bool.true_and, Bool.not_true, Bool.not_false]
end Go.Proofs.YtifefbhllfdmlaaGreatDoor
namespace Go.Proofs.YtifefbhllfdmlaaGreatDoor
open Go Go.Vo
open Nat (reduceAdd reduceSub reduceMul reduceLeDiff reduceLT reduceEqDiff)
open Int (reduceNeg)

theorem aLn {s : bX} (h : few s = true) : Small s := by
 simp only [few, aB, decide_eq_true_eq] at h
 exact ⟨by omega, by omega, by omega, by omega, by omega⟩
end Go.Proofs.YtifefbhllfdmlaaGreatDoor
namespace Go.Proofs.YtifefbhllfdmlaaGreatDoor
open Go Go.Vo
open Nat (reduceAdd reduceSub reduceMul reduceLeDiff reduceLT reduceEqDiff)
open Int (reduceNeg)

def nV (s : bX) (xs : List Str) : Int := if cV s then (if xs.all (dA s) then 0 else 13) else 2
theorem bCy {s : bX} {xs : List Str} (h : cV s = false) : nV s xs = 2 := by simp [nV, h]
theorem bCx {s : bX} {xs : List Str} (h : cV s = true) (h2 : xs.all (dA s) = false) : nV s xs = 13 := by simp only [nV, h, h2, if_true, aP, if_false]
theorem aUf {s : bX} {xs : List Str} (h : cV s = true) (h2 : xs.all (dA s) = true) : nV s xs = 0 := by simp only [nV, h, h2, if_true]
theorem aNm {s : bX} {xs : List Str} {b : Bool} : aDx s xs b = .tup [.b (decide (nV s xs = 0) && b), .i .i64 (nV s xs)] := by
 unfold aDx nV
 split
 · split <;> simp
 · simp
theorem bFm (s : bX) (xs : List Str) (hm : Small s) (hs : OkS s) (hx : xs.length ≤ 1000): CT 214 [.agg (aO s), avs xs] (.i .i64 (nV s xs)) := by
 refine bI mixed Tryz.func214 g0 ?_
 · simp -implicitDefEqProofs (disch := omega) only [Tryz.f214, go_sem, List.replicate, simprocAttr, avs]
   have h1 := hs.sorts
   (refine zs1 (bAr s hm hs) ?_; repeat' first | exact trivial | refine zJ ?_ ?_ | refine zH fun hc => ?_)
   · exact aE (by rw [bCy hc]) rfl
   · refine bT (fun (k : Nat) => [.k, .k, .k, .k, .j, .k, .j, .k, .k, .k, .k, .k, .v (.i .i64 k), .j, .j, .j, .j, .j, .j, .j, .j]) (fun k => [.box false [.sl (s.sorts.map .s) s.sorts.length, .sl (s.below.flatMap bU) s.below.length, .sl (s.ops.flatMap bA) s.ops.length, .sl (s.funs.flatMap bA) s.funs.length, .sl (s.values.map .s) s.values.length]]) (fun k => k ≤ xs.length ∧ ∀ j, j < k → dA s (xs.getD j []) = true) (fun k => xs.length - k) (0) ⟨aG _, fun j h => by omega⟩ rfl (by simp [eQ]) ?_
     rintro k j ⟨hk, ha⟩
     have hv := hc
     clear hc
     refine zg ?_
     (refine zs1 (aGg s (xs.getD k []) h1) ?_; repeat' first | exact trivial | refine zJ ?_ ?_ | refine zH fun hc => ?_)
     · rw [exists_eq] at hc
       exact aE (by rw [bCx hv (eL (d := []) (j := k) (by omega) hc)]) rfl
     · rw [exists_eq] at hc
       exact ⟨k + 1, ⟨by omega, bE ha hc⟩, by omega, by simp⟩
     · exact aE (by rw [aUf hv (iT (d := []) (fun j hj => ha j (by omega)))]) rfl
def zV (s : bX) (x y : Str) : Bool := decide (y = mM) || (climb s.below x).contains y
theorem aBc {s : bX} {x y : Str} (h : dA s x = true) : zV s x y = iM s x y := by simp only [zV, iM, U7, h, if_true]
theorem bFl (s : bX) (x y : Str) (hm : Small s): CT 216 [.agg (aO s), .s x, .s y] (.b (zV s x y)) := by
 refine aF mixed Tryz.func216 g0 ?_
 · skip
   have hl := tE s.below x
   have h2 := hm.below
   (refine zs2 (aWa s x) (vP (climb s.below x) y) ?_; repeat' first | exact trivial | refine zJ ?_ ?_ | refine zH fun hc => ?_)
   all_goals (refine aE ?_ (by rfl))
   all_goals simp_all [zV, mM]
theorem aXd {s : bX} {xs : List Str} (h : nV s xs = 0) : cV s = true ∧ xs.all (dA s) = true := by
 unfold nV at h
 split at h
 · rename_i hv
   split at h
   · rename_i hx; exact ⟨hv, hx⟩
   · cases h
 · cases h
theorem bJz {s : bX} {xs : List Str} {b : Bool} (h : ¬ nV s xs = 0) : aDx s xs b = .tup [.b false, .i .i64 (nV s xs)] := by rw [aNm, zf h]; rfl
theorem bKa {s : bX} {xs : List Str} {b c : Bool} (h : nV s xs = 0) (hb : cV s = true → xs.all (dA s) = true → b = c) : aDx s xs c = .tup [.b b, .i .i64 0] := by
 obtain ⟨h1, h2⟩ := aXd h
 rw [aNm, h, hb h1 h2]; rfl
theorem bNz (s : bX) (x : Str) (hm : Small s) (hs : OkS s): CT 172 [.agg (aO s), .s x] (aDx s [] (dA s x)) := by
 refine aF mixed Tryz.func172 g0 ?_
 · skip
   have h1 := hs.sorts
   by_cases h0 : nV s [] = 0
   · rw [bKa h0 (b := gM s x) (fun _ h => exists_eq s x)]
     (refine zx2 h0 (bFm s [] hm hs (by simp)) (aGg s x h1) ?_; repeat' first | exact trivial | refine zJ ?_ ?_ | refine zH fun hc => ?_)
     exact aE rfl rfl
   · rw [bJz h0]
     (refine zx1 h0 (bFm s [] hm hs (by simp)) ?_; repeat' first | exact trivial | refine zJ ?_ ?_ | refine zH fun hc => ?_)
     exact aE rfl rfl
theorem bTf (s : bX) (x : Str) (hm : Small s) (hs : OkS s) : CT 172 [.agg (aO s), .s x] (.tup [.b (decide (nV s [] = 0) && dA s x), .i .i64 (nV s [])]) := aNm ▸ bNz s x hm hs
end Go.Proofs.YtifefbhllfdmlaaGreatDoor
namespace Go.Proofs.YtifefbhllfdmlaaGreatDoor
open Go Go.Vo
open Nat (reduceAdd reduceSub reduceMul reduceLeDiff reduceLT reduceEqDiff)
open Int (reduceNeg)

theorem aZv {α : Type} {l : List α} {p : α → Bool} {k : Nat} {d : α} (hk : k < l.length) (h : p (l.getD k d) = true) (hb : ∀ j, j < k → (!p (l.getD j d)) = true) : l.find? p = some (l.getD k d) := by
 rw [List.find?_eq_some_iff_getElem]
 refine ⟨h, k, hk, by simp [List.getD, hk], fun j hj => ?_⟩
 have := hb j hj
 simpa [List.getD, show j < l.length by omega] using this
theorem aZu {α : Type} {l : List α} {p : α → Bool} {d : α} (hb : ∀ j, j < l.length → (!p (l.getD j d)) = true) : l.find? p = none := by
 rw [List.find?_eq_none]
 intro x hx
 obtain ⟨j, hj, rfl⟩ := bR.1 hx
 have := hb j hj
 simpa [List.getD, hj] using this
theorem R7 {h : List AObj} {b : Bool} : Fin h (.tup [.agg [.s [], .e0, .s [], .e0, .i .i64 0, .i .i64 0, .e0], .b b]) (.tup [elO default, .b b]) :=
 .inr ⟨⟨⟨rfl, rfl, rfl, rfl, rfl, rfl, rfl, trivial⟩, rfl, trivial⟩, by simp [elO, bA, bK, finIdsL, avs, avb, avi], by simp [elO, bA, bK, finIdsL, avs, avb, avi]⟩
def gZ (r : Option LOp) : AV := match r with
 | some o => .tup [elO o, .b true]
 | none => .tup [elO default, .b false]
theorem aMk (l : List LOp) (x : Str) (hl : l.length ≤ 140737488355328): CT 191 [avo l, .s x] (gZ (l.find? fun o => decide (o.name = x))) := by
 refine bI mixed Tryz.func191 g0 ?_
 · simp -implicitDefEqProofs (disch := omega) only [Tryz.f191, go_sem, List.replicate, simprocAttr, avo]
   refine dV (fun (k : Nat) => [.k, .k, .k, .k, .k, .j, .k, .j, .k, .k, .v (.i .i64 k), .j, .j, .j, .j, .j, .j, .j, .j, .j, .k]) (fun k => [.box false [.s [], .e0, .s [], .e0, .i .i64 0, .i .i64 0, .e0]]) (fun k => k ≤ l.length ∧ ∀ j, j < k → (!decide ((l.getD j default).name = x)) = true) (fun k => l.length - k) (0) _ ⟨aG _, fun j h => by omega⟩ rfl (by simp [eQ]) ?_
   rintro k g j ⟨hk, ha⟩
   refine zg ?_
   (refine zs0 ?_; repeat' first | exact trivial | refine zJ ?_ ?_ | refine zH fun hc => ?_)
   · have e : (l.find? fun o => decide (o.name = x)) = some (l.getD k default) := aZv (by omega) (zt hc) ha
     rw [e]
     exact aE rfl (by simp only [gZ, elO, pers, persL, O9, bA, avs, avb, avi, iN, fP, iD, dQ])
   · exact ⟨k + 1, _, ⟨by omega, bE ha (by rw [zf hc]; rfl)⟩, by omega, rfl, by simp⟩
   · have e : (l.find? fun o => decide (o.name = x)) = none := aZu (d := default) (fun j hj => ha j (by omega))
     rw [e]
     exact R7
end Go.Proofs.YtifefbhllfdmlaaGreatDoor
