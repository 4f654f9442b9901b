/-
  The abstract layer: a builder of strings, of its own or within a struct: what its methods do to the blocks, block by block. It speaks of any program that bears the library's functions; no condition.
-/
import Derived.Shelf.Strings.Builder1
import Derived.Test.YtifefbhllfdmlaaGreatDoorVoP105
set_option linter.unusedVariables false
set_option linter.unusedSimpArgs false
namespace Go.Vo
open Go.Shelf Go.RowKit Go.Lib Go.Proofs

def Shp (w w':World):Prop:=∀ b s,w.shape? b=some s→w'.shape? b=some s
theorem Shp.refl (w:World):Shp w w:=fun _ _ h=>h
theorem Shp.trans {a b c:World} (h:Shp a b) (k:Shp b c):Shp a c:=fun x s e=>k x s (h x s e)
theorem zX (w:World) (o:Obj):Shp w (w.alloc o):=fun b s h=>by rw [kG (Lib.alloc_old w o b (qH h))]; exact h
theorem zW (w:World) (a:Addr) (v:Value):Shp w (w.setCell a v):=fun b s h=>by
 rw [← h]
 unfold World.shape? World.setCell
 simp only [jM]
 by_cases hb:a.block=b
 · subst hb
   rw [if_pos rfl]
   cases ho:w.heap[a.block]? with
   | none=>rfl
   | some o=>
     cases o <;> simp [Option.map]
     split <;> simp
 · rw [if_neg hb]
section
variable {P:Program} (w:World)
theorem bGp (t u ty e:TypeId) (i:TypeInfo) (ht:P.underlying t=some (.slice e)) (hu:P.underlying u=some .string) (hi:P.info? e=some i) (hz:i.zero=some (.int .u8 0))
   (hsize:i.size=1) (hby:i.bytes=1)
   (v:Value) (n:Nat) (xs:List Value) (hown:w.ownsRow 0 e 1 v n xs) (s:ByteArray)
   (h63:n+s.size≤maxLen) (hbytes:n+s.size≤140737488355328) :
   ∃ v' w',(Builtin.append_ #[t,u] ty #[v,.string s]).run P w=.ok v' w'∧w'.ownsRow 0 e 1 v' (n+s.size) (xs++strCells s)∧w.grownBy w' v.ownBlock ∧
     (v'.ownBlock=v.ownBlock∨v'.ownBlock=some w.heap.size)∧Shp w w':=by
 obtain ⟨v',w',h1,h2,h3,h4⟩:=run_append_own_string (P:=P) w 0 t u ty e i ht hu hi hz hsize hby v n xs hown s h63 hbytes (aF _)
 refine ⟨v',w',h1,h2,h3,?_⟩
 have hxl:xs.length=n:=by simpa using hown.1
 rcases hown.2 with ⟨rfl,rfl⟩ | ⟨g,cap,cur,rfl,hbg,hg,hnc,hcm,hcs,htake⟩
 · by_cases hm:s.size=0
   · refine ⟨by rw [h4.2 ⟨rfl,hm⟩]; exact .inl rfl,?_⟩
     have hn:strCells s=[]:=List.eq_nil_of_length_eq_zero (by rw [strCells_length]; exact hm)
     have hf:=run_firstCells_string (P:=P) w 1 s
     rw [hm] at hf
     have hr:(Builtin.append_ #[t,u] ty #[.slice none 0 0,.string s]).run P w=.ok (.slice none 0 0) w:=by simp [Builtin.append_,run_underlying ht,run_underlying hu,sizeOf,typeInfo,hi,hsize,Builtin.lenOf,hm,hf]
     rw [hr] at h1
     cases h1
     exact Shp.refl w
   · have hr:=run_append_nil_string (P:=P) w t u ty e i (.int .u8 0) ht hu hi hz s (by omega) (by omega) (by rw [hby]; omega)
     rw [hr] at h1
     cases h1
     exact ⟨.inr rfl,zX _ _⟩
 · have hcs':cur.size=cap:=by simpa using hcs
   by_cases hroom:n+s.size≤cap
   · have hr:=run_append_room_string (P:=P) w t u ty e i ht hu hi hsize g n cap cur hg s hroom (by omega)
     rw [hr] at h1
     cases h1
     refine ⟨.inl rfl,fun b z hz=>?_⟩
     by_cases hbg:b=g
     case neg=>rw [kG (setRow_other w g b _ hbg)]; exact hz
     subst hbg
     refine nZ hg ?_ z hz
     simp only [List.size_toArray,List.length_append,bZ,fH,Array.length_toList,strCells_length]
     omega
   · have holds:∀ j u,xs[j]? = some u→w.cell? ((⟨g,0,none⟩:Addr).add j)=some u:=hown.cells (g:=g) rfl
     have hsmall:n+s.size≤9223372036854775807:=by simp only [maxLen] at h63; omega
     have hr:=run_append_grow_string (P:=P) w t u ty e i (.int .u8 0) ht hu hi hz ⟨g,0,none⟩ n cap xs (by rw [hsize]; simpa using hxl) holds s (by omega) (by omega) (by rw [hby]; exact growslice_fits (by omega) (by omega))
     rw [hr] at h1
     cases h1
     exact ⟨.inr rfl,zX _ _⟩
theorem aHr {ops:Array Oper} {rest:List Oper} {o:Oper} {a:Act} {Q:Exit→Act→World→Prop} (hgd:o.guard=none) (sl x:Operand) (t u:TypeId)
   (ho:o.op=.call { callee:=.builtin .append,args := #[sl,x],argTypes := #[t,u] })
   (e:TypeId) (i:TypeInfo) (ht:P.underlying t=some (.slice e)) (hu:P.underlying u=some .string) (hi:P.info? e=some i) (hz:i.zero=some (.int .u8 0))
   (hsize:i.size=1) (hby:i.bytes=1)
   (v:Value) (n:Nat) (xs:List Value) (hs:a.eval sl=v) (hown:w.ownsRow 0 e 1 v n xs) (s:ByteArray) (hx:a.eval x=.string s)
   (h63:n+s.size≤maxLen) (hbytes:n+s.size≤140737488355328)
   (h:∀ v' w',w'.ownsRow 0 e 1 v' (n+s.size) (xs++strCells s)→w.grownBy w' v.ownBlock→(v'.ownBlock=v.ownBlock∨v'.ownBlock=some w.heap.size)→Shp w w'→wpList P ops Q rest (a.put o.dst v') w'):wpList P ops Q (o::rest) a w:=by
 refine wpList_plain hgd fun K hK=>?_
 obtain ⟨v',w',hr,h2,h3,h4,h5⟩:=bGp (P:=P) w t u o.type e i ht hu hi hz hsize hby v n xs hown s h63 hbytes
 unfold Oper.wp execOp
 simp only [ho,resolve,invoke,builtin,bD,dE,aS,List.map_toArray,aZ,bO,hs,hx,hr]
 exact hK _ _ (h v' w' h2 h3 h4 h5)
end
section
variable {P:Program} {ρ:Ren} {T:TypeId}
def selfP (b:Nat):Value:=.pointer (some ⟨b,0,none⟩)
structure bTv (P:Program) (ρ:Ren) (T:TypeId):Prop where
 mixed:P.follows .mixedOrders=true
 f166:P.funcs[ρ.f 166]? = some (Body.n166 ρ)
 e240:∀ args w,(callFunc (ρ.f 240) args).run P w=.ok (.enter (ρ.f 240) args) w
 copy:∀ (b:Nat) (p v:Value) (w:World),w.heap[b]? = some (.cells #[p,v] T (0,0))→(p=.pointer none∨p=selfP b) →
   Calls P (ρ.f 240) #[selfP b] w fun e w'=>e=.returned (.tuple #[])∧w'.heap[b]? = some (.cells #[selfP b,v] T (0,0))∧w.grownBy w' (some b)∧w'.heap.size=w.heap.size∧Shp w w'
 t3:P.underlying (ρ.t 3)=some (TypeDesc.int IntKind.i64)
 a3:∀ w,(isAgg (ρ.t 3)).run P w=.ok false w
 z3:∀ w,(Go.sizeOf (ρ.t 3)).run P w=.ok 1 w
 v3:∀ w,(zeroValue (ρ.t 3)).run P w=.ok (Value.int IntKind.i64 0) w
 t4:P.underlying (ρ.t 4)=some (TypeDesc.bool)
 a4:∀ w,(isAgg (ρ.t 4)).run P w=.ok false w
 z4:∀ w,(Go.sizeOf (ρ.t 4)).run P w=.ok 1 w
 v4:∀ w,(zeroValue (ρ.t 4)).run P w=.ok (Value.bool false) w
 t9:P.underlying (ρ.t 9)=some (TypeDesc.string)
 a9:∀ w,(isAgg (ρ.t 9)).run P w=.ok false w
 z9:∀ w,(Go.sizeOf (ρ.t 9)).run P w=.ok 1 w
 v9:∀ w,(zeroValue (ρ.t 9)).run P w=.ok (Value.string { data := #[] }) w
 t37:P.underlying (ρ.t 37)=some (TypeDesc.slice (ρ.t 5))
 a37:∀ w,(isAgg (ρ.t 37)).run P w=.ok false w
 z37:∀ w,(Go.sizeOf (ρ.t 37)).run P w=.ok 1 w
 v37:∀ w,(zeroValue (ρ.t 37)).run P w=.ok (Value.slice none 0 0) w
 t70:P.underlying (ρ.t 70)=some (TypeDesc.pointer (ρ.t 72))
 a70:∀ w,(isAgg (ρ.t 70)).run P w=.ok false w
 z70:∀ w,(Go.sizeOf (ρ.t 70)).run P w=.ok 1 w
 v70:∀ w,(zeroValue (ρ.t 70)).run P w=.ok (Value.pointer none) w
 t72:P.underlying (ρ.t 72)=some (TypeDesc.struct #[{ name := "addr",type:=ρ.t 70,offset:=0,embedded:=false,tag := "",pkgPath := "strings",byteOffset:=0 },{ name := "buf",type:=ρ.t 37,offset:=1,embedded:=false,tag := "",pkgPath := "strings",byteOffset:=8 }])
 a72:∀ w,(isAgg (ρ.t 72)).run P w=.ok true w
 z72:∀ w,(Go.sizeOf (ρ.t 72)).run P w=.ok 2 w
 v72:∀ w,(zeroValue (ρ.t 72)).run P w=.ok (Value.agg #[Value.pointer none,Value.slice none 0 0]) w
theorem bIw {w:World} {e:TypeId} {v:Value} {n:Nat} {xs:List Value} (h:w.ownsRow 0 e 1 v n xs) {g:Nat} (hg:v.ownBlock=some g):∃ cur cap,w.heap[g]? = some (.cells cur e (0,0))∧v=.slice (some ⟨g,0,none⟩) n cap:=by
 rcases h.2 with ⟨rfl,_⟩ | ⟨g',cap,cur,rfl,_,hg',_⟩
 · cases hg
 · simp only [Value.ownBlock,aB] at hg
   subst hg
   exact ⟨cur,cap,hg',rfl⟩
theorem aFv {w:World} {b:Nat} {o:Obj} (h:w.heap[b]? = some o):b < w.heap.size:=by
 rcases zG b w.heap.size with h' | h'
 · exact h'
 · simp [aBc h'] at h
set_option maxHeartbeats 2000000 in
set_option maxRecDepth 100000 in
theorem aRj (L:bTv P ρ T) (X:Builder.Extra P ρ) (hT:T ≠ ρ.t 5) (b:Nat) (p v:Value) (n:Nat) (xs:List Value) (s:ByteArray) (w:World)
   (hb:w.heap[b]? = some (.cells #[p,v] T (0,0))) (hp:p=.pointer none∨p=selfP b) (hown:w.ownsRow 0 (ρ.t 5) 1 v n xs) (hlen:n+s.size≤140737488355328) :
   Calls P (ρ.f 166) #[selfP b,.string s] w fun e w'=>e=.returned (.tuple #[.int .i64 s.size,.nilIface])∧∃ v',w'.heap[b]? = some (.cells #[selfP b,v'] T (0,0))∧w'.ownsRow 0 (ρ.t 5) 1 v' (n+s.size) (xs++strCells s) ∧
     w'.os=w.os∧w'.tape=w.tape∧w'.output=w.output∧w.heap.size≤w'.heap.size∧(∀ k,k < w.heap.size→k ≠ b→some k ≠ v.ownBlock→w'.heap[k]? = w.heap[k]?)∧(∀ g,v'.ownBlock=some g→v.ownBlock=some g∨w.heap.size≤g)∧Shp w w':=by
 obtain ⟨i0,hi,hz0,hz1,hz2⟩:=info_parts X.infoByte
 have mixed:=L.mixed
 have t72:=L.t72; have a72:=L.a72; have z72:=L.z72; have v72:=L.v72; have u72:=run_underlying L.t72
 have t70:=L.t70; have a70:=L.a70; have z70:=L.z70; have v70:=L.v70; have u70:=run_underlying L.t70
 have t37:=L.t37; have a37:=L.a37; have z37:=L.z37; have v37:=L.v37; have u37:=run_underlying L.t37
 have t3:=L.t3; have a3:=L.a3; have z3:=L.z3; have v3:=L.v3; have u3:=run_underlying L.t3
 have t9:=L.t9; have a9:=L.a9; have z9:=L.z9; have v9:=L.v9; have u9:=run_underlying L.t9
 have t4:=L.t4; have a4:=L.a4; have z4:=L.z4; have v4:=L.v4; have u4:=run_underlying L.t4
 have t5:=X.t5; have a5:=X.a5; have z5:=X.z5; have v5:=X.v5; have u5:=run_underlying X.t5
 have e240:=L.e240
 have hne0:v.ownBlock ≠ some b:=ownBlock_ne hown hb hT
 unfold selfP
 go_enter L.f166,Body.n166_ntmps ρ
 go_wp2_with (go_at_fn (ρ.f 240); refine (L.copy b p v w hb hp).mono ?_)
 rintro e w1 ⟨rfl,hbk,gr,hsz,hs1⟩
 unfold selfP at hbk
 have hown1:w1.ownsRow 0 (ρ.t 5) 1 v n xs:=hown.kept gr (.inr hne0)
 have hne:v.ownBlock ≠ some b:=hne0
 have c0:w1.cell? ⟨b,0,none⟩=some (.pointer (some ⟨b,0,none⟩)):=by rw [Lib.cell_of_heap hbk]; rfl
 have c1:w1.cell? ⟨b,1,none⟩=some v:=by rw [Lib.cell_of_heap hbk]; rfl
 go_wp2_with (at_builtin; refine aHr _ rfl _ _ (ρ.t 37) (ρ.t 9) rfl (ρ.t 5) i0 L.t37 L.t9 hi hz0 hz1 hz2 _ _ _ rfl hown1 s rfl ?c3 ?c4 ?_)
 case c3=>unfold maxLen; omega
 case c4=>omega
 intro v' w2 hown' hgrow hnew hs2
 have hlt:b < w1.heap.size:=aFv hbk
 have hb2:w2.heap[b]? = some (.cells #[.pointer (some ⟨b,0,none⟩),v] T (0,0)):=by
   rw [hgrow.block b hlt (fun e=>hne e.symm)]
   exact hbk
 have d0:w2.cell? ⟨b,0,none⟩=some (.pointer (some ⟨b,0,none⟩)):=by rw [Lib.cell_of_heap hb2]; rfl
 have d1:w2.cell? ⟨b,1,none⟩=some v:=by rw [Lib.cell_of_heap hb2]; rfl
 have f1:w2.frozen? ⟨b,1,none⟩=false:=Lib.frozen_of_heap hb2 1
 obtain ⟨ao,n',cap,rfl⟩:∃ ao n' cap,v'=.slice ao n' cap:=by
   rcases hown'.2 with ⟨hv,_⟩ | ⟨g,cap,cur,hv,_⟩
   · exact ⟨_,_,_,hv⟩
   · exact ⟨_,_,_,hv⟩
 have hne':(Value.slice ao n' cap).ownBlock ≠ some b:=ownBlock_ne hown' hb2 hT
 go_wp2
 go_ret2
 refine ⟨rfl,_,?_,hown'.kept (w':=w2.setCell ⟨b,1,none⟩ (.slice ao n' cap)) (row:=some b) ⟨rfl,rfl,rfl,by simp [World.setCell],fun k _ hk=>Below.heap_setCell _ _ _ _ (fun e=>hk (by simp [e]))⟩ (.inr hne'),?_⟩
 · simp [World.setCell,jM,hb2]
 · refine ⟨hgrow.os.trans gr.os,hgrow.tape.trans gr.tape,hgrow.output.trans gr.output,?_,fun k hk hkb hkv=>?_,fun g hg=>?_,hs1.trans (hs2.trans (zW _ _ _))⟩
   · have:=hgrow.size; simp [World.setCell]; omega
   · rw [Below.heap_setCell _ _ _ _ (fun e=>hkb (by simpa using e)),hgrow.block k (by omega) hkv,gr.block k hk (fun e=>hkb (by simpa using e))]
   · rcases hnew with h | h
     · exact .inl (h.symm.trans hg)
     · rw [h] at hg; cases hg; exact .inr (by omega)
theorem Y6 (w:World) (g:Nat) (n:Nat):w.grownBy (w.freeze ⟨g,0,none⟩ n) (some g):=by
 unfold World.freeze
 split
 · exact ⟨rfl,rfl,rfl,bA _,fun _ _ _=>rfl⟩
 · refine ⟨rfl,rfl,rfl,by simp,fun k hk hne=>?_⟩
   simp only [jM]
   rw [if_neg (fun e=>hne (by simp [e]))]
theorem aIi (w:World) (a:Addr) (n:Nat):Shp w (w.freeze a n):=fun b s h=>by
 unfold World.freeze
 by_cases hn:n=0
 · rw [if_pos hn]; exact h
 rw [if_neg hn,← h]
 unfold World.shape?
 simp only [jM]
 by_cases hb:a.block=b
 · subst hb
   rw [if_pos rfl]
   cases ho:w.heap[a.block]? with
   | none=>rfl
   | some o=>cases o <;> simp [Option.map]
 · rw [if_neg hb]
theorem sN {w w':World} {r:Option Nat} (h:w.drew.grownBy w' r):w.grownBy w' r:=⟨h.os,h.tape,h.output,h.size,h.block⟩
set_option maxHeartbeats 2000000 in
set_option maxRecDepth 100000 in
theorem aDg (L:Lays.n169 P ρ) (X:Builder.Extra P ρ) (b g cap:Nat) (p:Value) (cur:Array Value) (l:List UInt8) (w:World) (h0:l ≠ [])
   (hb:w.heap[b]? = some (.cells #[p,.slice (some ⟨g,0,none⟩) l.length cap] T (0,0))) (hown:w.ownsRow 0 (ρ.t 5) 1 (.slice (some ⟨g,0,none⟩) l.length cap) l.length (byteCells l))
   (hg:w.heap[g]? = some (.cells cur (ρ.t 5) (0,0))) (hnc:l.length≤cap) (hcm:cap≤maxLen) (hcs:cur.size=cap * 1) :
   Calls P (ρ.f 169) #[selfP b] w fun e w'=>e=.returned (.string ⟨l.toArray⟩)∧w.grownBy w' (some g)∧Shp w w':=by
 have hl0:l.length ≠ 0:=by simpa using h0
 have c1:w.drew.cell? ⟨b,1,none⟩=some (.slice (some ⟨g,0,none⟩) l.length cap):=by
   have:w.drew.heap[b]? = some (.cells #[p,.slice (some ⟨g,0,none⟩) l.length cap] T (0,0)):=hb
   rw [Lib.cell_of_heap this]; rfl
 have hSD:(Builtin.unsafeSliceData_ #[(ρ.t 37)] (ρ.t 127) #[.slice (some ⟨g,0,none⟩) l.length cap]).run P w.drew=.ok (.pointer (some ⟨g,0,none⟩)) w.drew:=
   Lib.run_unsafeSliceData_row _ _ _ _ _ _ (by omega)
 have hUS:(Builtin.unsafeString_ #[(ρ.t 127),(ρ.t 3)] (ρ.t 9) #[.pointer (some ⟨g,0,none⟩),.int .i64 l.length]).run P w.drew=.ok (.string ⟨l.toArray⟩) (w.drew.freeze ⟨g,0,none⟩ l.length):=by
   refine Lib.run_unsafeString_row w.drew (ρ.t 127) (ρ.t 3) (ρ.t 9) (ρ.t 5) L.t127 X.cellsByte g cur.size (by have hg':w.drew.heap[g]? = some (.cells cur (ρ.t 5) (0,0)):=hg; simp [World.shape?,hg']) l h0 (by omega) (by unfold maxLen at hcm; omega) ?_
   intro j x hx
   have:=hown.cells (g:=g) rfl j (.int .u8 x.toNat) (by simp [Lib.byteCells,hx])
   exact this
 have mixed:=L.mixed
 have t72:=L.t72; have a72:=L.a72; have z72:=L.z72; have v72:=L.v72; have u72:=run_underlying L.t72
 have t70:=L.t70; have a70:=L.a70; have z70:=L.z70; have v70:=L.v70; have u70:=run_underlying L.t70
 have t37:=L.t37; have a37:=L.a37; have z37:=L.z37; have v37:=L.v37; have u37:=run_underlying L.t37
 have t127:=L.t127; have a127:=L.a127; have z127:=L.z127; have v127:=L.v127; have u127:=run_underlying L.t127
 have t3:=L.t3; have a3:=L.a3; have z3:=L.z3; have v3:=L.v3; have u3:=run_underlying L.t3
 have t9:=L.t9; have a9:=L.a9; have z9:=L.z9; have v9:=L.v9; have u9:=run_underlying L.t9
 have t5:=X.t5; have a5:=X.a5; have z5:=X.z5; have v5:=X.v5; have u5:=run_underlying X.t5
 unfold selfP
 go_enter L.f169,Body.n169_ntmps ρ
 go_wp2
 go_region_o
 all_goals (go_wp2; go_ret; exact ⟨rfl,sN (Y6 _ _ _),aIi w.drew _ _⟩)
set_option maxHeartbeats 2000000 in
set_option maxRecDepth 100000 in
theorem H2 (L:Lays.n169 P ρ) (X:Builder.Extra P ρ) (b:Nat) (p:Value) (w:World) (hbk:w.heap[b]? = some (.cells #[p,.slice none 0 0] T (0,0))) :
   Calls P (ρ.f 169) #[selfP b] w fun e w'=>e=.returned (.string ⟨#[]⟩)∧w.grownBy w' none∧Shp w w':=by
 have hUS:=Any.unsafeString_none L X
 have c1:w.drew.cell? ⟨b,1,none⟩=some (.slice none 0 0):=by
   have:w.drew.heap[b]? = some (.cells #[p,.slice none 0 0] T (0,0)):=hbk
   rw [Lib.cell_of_heap this]; rfl
 have hSD:(Builtin.unsafeSliceData_ #[(ρ.t 37)] (ρ.t 127) #[.slice none 0 0]).run P w.drew=.ok (.pointer none) w.drew:=rfl
 have mixed:=L.mixed
 have t72:=L.t72; have a72:=L.a72; have z72:=L.z72; have v72:=L.v72; have u72:=run_underlying L.t72
 have t70:=L.t70; have a70:=L.a70; have z70:=L.z70; have v70:=L.v70; have u70:=run_underlying L.t70
 have t37:=L.t37; have a37:=L.a37; have z37:=L.z37; have v37:=L.v37; have u37:=run_underlying L.t37
 have t127:=L.t127; have a127:=L.a127; have z127:=L.z127; have v127:=L.v127; have u127:=run_underlying L.t127
 have t3:=L.t3; have a3:=L.a3; have z3:=L.z3; have v3:=L.v3; have u3:=run_underlying L.t3
 have t9:=L.t9; have a9:=L.a9; have z9:=L.z9; have v9:=L.v9; have u9:=run_underlying L.t9
 have t5:=X.t5; have a5:=X.a5; have z5:=X.z5; have v5:=X.v5; have u5:=run_underlying X.t5
 unfold selfP
 go_enter L.f169,Body.n169_ntmps ρ
 go_wp2
 go_region_o
 all_goals (go_wp2; go_ret; exact ⟨rfl,sN ⟨rfl,rfl,rfl,bA _,fun _ _ _=>rfl⟩,Shp.refl _⟩)
set_option maxHeartbeats 2000000 in
set_option maxRecDepth 100000 in
theorem xE (L:Lays.n169 P ρ) (X:Builder.Extra P ρ) (b g:Nat) (p:Value) (cur:Array Value) (w:World) (hbk:w.heap[b]? = some (.cells #[p,.slice (some ⟨g,0,none⟩) 0 0] T (0,0))) (hg:w.heap[g]? = some (.cells cur (ρ.t 5) (0,0))) :
   Calls P (ρ.f 169) #[selfP b] w fun e w'=>e=.returned (.string ⟨#[]⟩)∧w.grownBy w' none∧Shp w w':=by
 have hUS:=Any.unsafeString_none L X
 have hlt:b < w.heap.size:=aFv hbk
 have c1:w.drew.cell? ⟨b,1,none⟩=some (.slice (some ⟨g,0,none⟩) 0 0):=by
   have:w.drew.heap[b]? = some (.cells #[p,.slice (some ⟨g,0,none⟩) 0 0] T (0,0)):=hbk
   rw [Lib.cell_of_heap this]; rfl
 have hSD:(Builtin.unsafeSliceData_ #[(ρ.t 37)] (ρ.t 127) #[.slice (some ⟨g,0,none⟩) 0 0]).run P w.drew=.ok (.pointer (some ⟨w.drew.heap.size,0,none⟩)) (w.drew.alloc (.view ⟨g,0,none⟩ (ρ.t 5))):=
   Lib.run_unsafeSliceData_zero w.drew _ _ (ρ.t 5) L.t127 ⟨g,0,none⟩ 0 ((ρ.t 5),cur.size) (by have hg':w.drew.heap[g]? = some (.cells cur (ρ.t 5) (0,0)):=hg; simp [World.shape?,hg'])
 have c2:(w.drew.alloc (.view ⟨g,0,none⟩ (ρ.t 5))).cell? ⟨b,1,none⟩=some (.slice (some ⟨g,0,none⟩) 0 0):=by
   have:(w.drew.alloc (.view ⟨g,0,none⟩ (ρ.t 5))).heap[b]? = _:=(Lib.alloc_old w.drew _ b hlt).trans hbk
   rw [Lib.cell_of_heap this]; rfl
 have c3:(w.alloc (.view ⟨g,0,none⟩ (ρ.t 5))).drew.cell? ⟨b,1,none⟩=some (.slice (some ⟨g,0,none⟩) 0 0):=c2
 have c0:w.cell? ⟨b,1,none⟩=some (.slice (some ⟨g,0,none⟩) 0 0):=c1
 have mixed:=L.mixed
 have t72:=L.t72; have a72:=L.a72; have z72:=L.z72; have v72:=L.v72; have u72:=run_underlying L.t72
 have t70:=L.t70; have a70:=L.a70; have z70:=L.z70; have v70:=L.v70; have u70:=run_underlying L.t70
 have t37:=L.t37; have a37:=L.a37; have z37:=L.z37; have v37:=L.v37; have u37:=run_underlying L.t37
 have t127:=L.t127; have a127:=L.a127; have z127:=L.z127; have v127:=L.v127; have u127:=run_underlying L.t127
 have t3:=L.t3; have a3:=L.a3; have z3:=L.z3; have v3:=L.v3; have u3:=run_underlying L.t3
 have t9:=L.t9; have a9:=L.a9; have z9:=L.z9; have v9:=L.v9; have u9:=run_underlying L.t9
 have t5:=X.t5; have a5:=X.a5; have z5:=X.z5; have v5:=X.v5; have u5:=run_underlying X.t5
 unfold selfP
 go_enter L.f169,Body.n169_ntmps ρ
 go_wp2
 go_region_o
 all_goals (go_wp2; go_ret; exact ⟨rfl,sN ⟨rfl,rfl,rfl,by simp,fun k hk _=>Lib.alloc_old w.drew _ k hk⟩,zX _ _⟩)
set_option maxHeartbeats 2000000 in
set_option maxRecDepth 100000 in
theorem E8 (L:Lays.n169 P ρ) (X:Builder.Extra P ρ) (b g cap:Nat) (p:Value) (w:World) (hc0:cap ≠ 0) (hbk:w.heap[b]? = some (.cells #[p,.slice (some ⟨g,0,none⟩) 0 cap] T (0,0))) :
   Calls P (ρ.f 169) #[selfP b] w fun e w'=>e=.returned (.string ⟨#[]⟩)∧w.grownBy w' none∧Shp w w':=by
 have hUS:=Any.unsafeString_none L X
 have c1:w.drew.cell? ⟨b,1,none⟩=some (.slice (some ⟨g,0,none⟩) 0 cap):=by
   have:w.drew.heap[b]? = some (.cells #[p,.slice (some ⟨g,0,none⟩) 0 cap] T (0,0)):=hbk
   rw [Lib.cell_of_heap this]; rfl
 have hSD:(Builtin.unsafeSliceData_ #[(ρ.t 37)] (ρ.t 127) #[.slice (some ⟨g,0,none⟩) 0 cap]).run P w.drew=.ok (.pointer (some ⟨g,0,none⟩)) w.drew:=
   Lib.run_unsafeSliceData_row _ _ _ _ _ _ hc0
 clear hc0
 have mixed:=L.mixed
 have t72:=L.t72; have a72:=L.a72; have z72:=L.z72; have v72:=L.v72; have u72:=run_underlying L.t72
 have t70:=L.t70; have a70:=L.a70; have z70:=L.z70; have v70:=L.v70; have u70:=run_underlying L.t70
 have t37:=L.t37; have a37:=L.a37; have z37:=L.z37; have v37:=L.v37; have u37:=run_underlying L.t37
 have t127:=L.t127; have a127:=L.a127; have z127:=L.z127; have v127:=L.v127; have u127:=run_underlying L.t127
 have t3:=L.t3; have a3:=L.a3; have z3:=L.z3; have v3:=L.v3; have u3:=run_underlying L.t3
 have t9:=L.t9; have a9:=L.a9; have z9:=L.z9; have v9:=L.v9; have u9:=run_underlying L.t9
 have t5:=X.t5; have a5:=X.a5; have z5:=X.z5; have v5:=X.v5; have u5:=run_underlying X.t5
 unfold selfP
 go_enter L.f169,Body.n169_ntmps ρ
 go_wp2
 go_region_o
 all_goals (go_wp2; go_ret; exact ⟨rfl,sN ⟨rfl,rfl,rfl,bA _,fun _ _ _=>rfl⟩,Shp.refl _⟩)
theorem aKb (L:Lays.n169 P ρ) (X:Builder.Extra P ρ) (b:Nat) (p v:Value) (l:List UInt8) (w:World)
   (hb:w.heap[b]? = some (.cells #[p,v] T (0,0))) (hown:w.ownsRow 0 (ρ.t 5) 1 v l.length (byteCells l)) :
   Calls P (ρ.f 169) #[selfP b] w fun e w'=>e=.returned (.string ⟨l.toArray⟩)∧w.grownBy w' v.ownBlock∧Shp w w':=by
 have up:∀ {w':World} {r:Option Nat},w.grownBy w' none→w.grownBy w' r:=fun h=>⟨h.os,h.tape,h.output,h.size,fun k hk _=>h.block k hk (by simp)⟩
 cases l with
 | nil =>
   rcases hown.2 with ⟨rfl,_⟩ | ⟨g,cap,cur,rfl,_,hg,_,_,_,_⟩
   · exact (H2 L X b p w hb).mono fun _ _ h=>⟨h.1,up h.2.1,h.2.2⟩
   · by_cases hc0:cap=0
     · subst hc0
       exact (xE L X b g p cur w hb hg).mono fun _ _ h=>⟨h.1,up h.2.1,h.2.2⟩
     · exact (E8 L X b g cap p w hc0 hb).mono fun _ _ h=>⟨h.1,up h.2.1,h.2.2⟩
 | cons x r=>
   rcases hown.2 with ⟨_,hz⟩ | ⟨g,cap,cur,rfl,_,hg,hnc,hcm,hcs,_⟩
   · simp at hz
   · exact (aDg L X b g cap p cur (x::r) w (by simp) hb hown hg hnc hcm hcs).mono fun _ _ h=>h
end

abbrev rJ (T:TypeId) (v:Value):AObj:=.held false fun x=>∃ b p,x=some (b,.cells #[p,v] T (0,0))∧(p=.pointer Option.none∨p=selfP b)
def tX (e:TypeId) (v:Value) (l:List UInt8):AObj:=.held true fun x=>
 (x=Option.none∧v=.slice Option.none 0 0∧l=[]) ∨
 ∃ g cap cur,x=some (g,.cells cur e (0,0))∧v=.slice (some ⟨g,0,Option.none⟩) l.length cap∧l.length≤cap∧cap≤maxLen∧cur.size=cap * 1∧cur.toList.take (l.length * 1)=byteCells l
@[simp] theorem bTl {T:TypeId} {v:Value}:(rJ T v).mv=false:=rfl
@[simp] theorem bTk {e:TypeId} {v:Value} {l:List UInt8}:(tX e v l).mv=true:=rfl
structure BSt (T e:TypeId) (X:Ctx) (w:World) (v:Value) (l:List UInt8) (b:Nat) (p:Value):Prop where
 i0:X.ι 0=some (b,0)
 f0:¬ X.F b
 hb:w.heap[b]? = some (.cells #[p,v] T (0,0))
 hp:p=.pointer Option.none∨p=selfP b
 own:w.ownsRow 0 e 1 v l.length (byteCells l)
 i1:X.ι 1=v.ownBlock.map fun g=>(g,0)
 f1:∀ g,v.ownBlock=some g→¬ X.F g
 i2:∀ i,2≤i→X.ι i=Option.none
section
variable {P:Program} {G:Glob} {T e:TypeId} {X:Ctx} {w:World} {v:Value} {l:List UInt8}
theorem gfb {h:List AObj} (g:GH G X w h) {k:Nat} (hk:X.F k):k < w.heap.size:=g.fbnd k hk
theorem bAy (g:GH G X w [rJ T v,tX e v l]):∃ b p,BSt T e X w v l b p:=by
 have o0:=g.objs 0 _ rfl
 have o1:=g.objs 1 _ rfl
 unfold rJ at o0
 unfold tX at o1
 have hi2:∀ i,2≤i→X.ι i=Option.none:=fun i hi=>by
   cases h:X.ι i with
   | none=>rfl
   | some bo=>obtain ⟨ob,ho⟩:=g.dom _ _ h; have:=aO ho; simp at this; omega
 have hn:byteCells l=byteCells l:=rfl
 cases o0 with
 | absent h0 hh=>simp [AObj.isH] at hh
 | away h0 h1=>obtain ⟨b,p,h2,_⟩:=h1; cases h2
 | held h0 h1 h2 h3=>
   obtain ⟨b,p,h4,h5⟩:=h3
   cases h4
   cases o1 with
   | absent k0 kh=>simp [AObj.isH] at kh
   | away k0 k1=>
     rcases k1 with ⟨_,rfl,rfl⟩ | ⟨g',cap,cur,k2,_⟩
     · exact ⟨_,p,h0,h1,h2,h5,World.ownsRow_nil _ _ _ _,by rw [k0]; rfl,(fun g hg=>by cases hg),hi2⟩
     · cases k2
   | held k0 k1 k2 k3=>
     rcases k3 with ⟨k4,_⟩ | ⟨g',cap,cur,k4,rfl,k5,k6,k7,k8⟩
     · cases k4
     · cases k4
       refine ⟨_,p,h0,h1,h2,h5,⟨by rw [byteCells_length]; omega,.inr ⟨_,cap,cur,rfl,aF _,k2,k5,k6,k7,k8⟩⟩,by rw [k0]; rfl,fun g hg=>?_,hi2⟩
       cases hg; exact k1
theorem bOk {b:Nat} {p:Value} (s:BSt T e X w v l b p) (hT:T ≠ e) (hfb:∀ b,X.F b→b < w.heap.size) (hgl:∀ k a,G k=some a→GRel X w [rJ T v,tX e v l] k a):GH G X w [rJ T v,tX e v l]:=by
 have hne:v.ownBlock ≠ some b:=ownBlock_ne s.own s.hb hT
 have hsome:∀ g,v.ownBlock=some g→g < w.heap.size:=fun g hg=>by
   obtain ⟨cur,cap,h1,h2⟩:=bIw s.own hg
   exact aFv h1
 refine ⟨?_,?_,?_,?_,hfb,hgl⟩
 · intro id ob hid
   match id with
   | 0=>
     simp at hid; subst hid
     exact .held s.i0 s.f0 s.hb ⟨b,p,rfl,s.hp⟩
   | 1=>
     simp at hid; subst hid
     rcases s.own.2 with ⟨h1,h2⟩ | ⟨g,cap,cur,h1,_,h2,h3,h4,h5,h6⟩
     · refine .away (by rw [s.i1,h1]; rfl) (.inl ⟨rfl,h1,List.eq_nil_of_length_eq_zero h2⟩)
     · exact .held (b:=g) (by rw [s.i1,h1]; rfl) (s.f1 g (by rw [h1]; rfl)) h2 (.inr ⟨g,cap,cur,rfl,h1,h3,h4,h5,h6⟩)
   | id+2=>simp at hid
 · intro id bo hb
   match id with
   | 0=>exact ⟨_,rfl⟩
   | 1=>exact ⟨_,rfl⟩
   | id+2=>rw [s.i2 _ (by omega)] at hb; cases hb
 · intro id id' x o o' hb hb'
   have key:∀ o,X.ι 1=some (x,o)→X.ι 0=some (x,o')∨X.ι 0=some (x,o)→False:=fun o h1 h0=>by
     rw [s.i1] at h1
     obtain ⟨g,hg,hg'⟩:=bI.1 h1
     cases hg'
     rw [s.i0] at h0
     rcases h0 with h0 | h0 <;> cases h0 <;> exact hne hg
   match id,id' with
   | 0,0=>rfl
   | 1,1=>rfl
   | 0,1=>exact (by
       rw [s.i1] at hb'
       obtain ⟨g,hg,hg'⟩:=bI.1 hb'
       cases hg'
       rw [s.i0] at hb
       cases hb
       exact absurd hg hne)
   | 1,0=>exact (key _ hb (.inl hb')).elim
   | id+2,_=>rw [s.i2 _ (by omega)] at hb; cases hb
   | _,id'+2=>rw [s.i2 _ (by omega)] at hb'; cases hb'
 · intro id x o hb
   match id with
   | 0=>rw [s.i0] at hb; cases hb; exact aFv s.hb
   | 1=>
     rw [s.i1] at hb
     obtain ⟨g,hg,hg'⟩:=bI.1 hb
     cases hg'
     exact hsome _ hg
   | id+2=>rw [s.i2 _ (by omega)] at hb; cases hb
end
section
variable {P:Program} {ρ:Ren} {G:Glob} {T:TypeId}
theorem aAw (L:bTv P ρ T) (Y:Builder.Extra P ρ) (hT:T ≠ ρ.t 5) (hcal:gQ P (ρ.f 166)=true) {v:Value} {l s:List UInt8} (hlen:l.length+s.length≤140737488355328) :
   ACalls P G (ρ.f 166) [.ptr 0 0,.s s] [rJ T v,tX (ρ.t 5) v l] (fun r h'=>r=.tup [.i .i64 s.length,.p .nilIface]∧∃ v',h'=[rJ T v',tX (ρ.t 5) v' (l++s)]):=by
 refine ⟨hcal,?_⟩
 intro X w vs g hvl hr
 obtain ⟨a0,a1,rfl⟩:∃ a0 a1,vs = #[a0,a1]:=by
   obtain ⟨vs⟩:=vs
   match vs,hvl with
   | [a0,a1],_=>exact ⟨a0,a1,rfl⟩
 have r0:=hr 0 _ a0 rfl rfl
 have r1:=hr 1 _ a1 rfl rfl
 obtain ⟨b,p,st⟩:=bAy g
 obtain rfl:a0=selfP b:=by
   cases r0 with
   | ptr hid hnd hι=>rw [st.i0] at hι; cases hι; rfl
   | dead hr0 hid hv=>simp [AV.refs] at hr0; subst hr0; simp [rJ] at hid
 obtain rfl:a1=.string ⟨s.toArray⟩:=by
   cases r1 with
   | s l=>rfl
   | dead hr0 hid hv=>simp [AV.refs] at hr0
 have hsc:strCells ⟨s.toArray⟩=byteCells s:=by rw [strCells_eq]
 have hss:(ByteArray.mk s.toArray).size=s.length:=by simp [ByteArray.size]
 refine (aRj L Y hT b p v l.length (byteCells l) ⟨s.toArray⟩ w st.hb st.hp st.own (by rw [hss]; exact hlen)).mono ?_
 rintro e w' ⟨rfl,v',hb',hown',hos,htape,hout,hsize,hold,hnew,hshp⟩
 rw [hsc,hss,← byteCells_append,← List.length_append] at hown'
 rw [hss]
 have st':BSt T (ρ.t 5) ⟨X.F,fun i=>if i=1 then v'.ownBlock.map (fun g=>(g,0)) else X.ι i⟩ w' v' (l++s) b (selfP b):=
   ⟨st.i0,st.f0,hb',.inr rfl,hown',rfl,fun g' hg hf=>by
     rcases hnew g' hg with h | h
     · exact st.f1 g' h hf
     · have:=gfb g hf; omega,fun i hi=>by simp only; rw [if_neg (by omega)]; exact st.i2 i hi⟩
 have hfr:∀ k,k < w.heap.size→(∀ id o,X.ι id ≠ some (k,o))→w'.heap[k]? = w.heap[k]? := fun k hk hno=>
   hold k hk (fun e=>hno 0 0 (by rw [st.i0,e])) (fun e=>hno 1 0 (by rw [st.i1,← e]; rfl))
 have hFk:∀ k,X.F k→w'.heap[k]? = w.heap[k]? := fun k hk=>hold k (g.fbnd k hk) (fun e=>st.f0 (e ▸ hk)) (fun e=>st.f1 k e.symm hk)
 have ext:Ext X w [rJ T v,tX (ρ.t 5) v l] ⟨X.F,fun i=>if i=1 then v'.ownBlock.map (fun g=>(g,0)) else X.ι i⟩ w' [rJ T v',tX (ρ.t 5) v' (l++s)]:=by
   refine ⟨fun _ h=>h,hFk,hshp,?_⟩
   intro id o ho
   match id with
   | 0=>simp at ho; subst ho; exact ⟨_,rfl,.inr ⟨rfl,.inl rfl⟩⟩
   | 1=>simp at ho; subst ho; exact ⟨_,rfl,.inr ⟨rfl,.inr rfl⟩⟩
   | id+2=>simp at ho
 refine ⟨_,_,_,_,rfl,⟨rfl,v',rfl⟩,bOk st' hT (fun k hk=>eF (g.fbnd k hk) hsize) (fun k a hk=>(g.gl k a hk).mono ext),?_,⟨⟨hsize,hos,htape,hout,hfr,?_,fun k hk=>.inl hk⟩,ext,?_⟩⟩
 · refine .tup rfl ?_
   intro j a v ha hv
   match j with
   | 0=>simp at ha hv; subst ha; subst hv; exact .i _ _
   | 1=>simp at ha hv; subst ha; subst hv; exact .p _ rfl
   | j+2=>simp at ha
 · intro id k o hk
   by_cases h1:id=1
   · subst h1
     simp only [if_true] at hk
     obtain ⟨g',hg,hg'⟩:=bI.1 hk
     cases hg'
     rcases hnew k hg with h | h
     · exact .inr ⟨1,0,by rw [st.i1,h]; rfl⟩
     · exact .inl h
   · simp only [if_neg h1] at hk
     exact .inr ⟨id,o,hk⟩
 · intro id z hid
   match id with
   | 0=>simp [rJ] at hid
   | 1=>simp [tX] at hid
   | id+2=>simp at hid
theorem Q4 (L:Lays.n169 P ρ) (Y:Builder.Extra P ρ) (hT:T ≠ ρ.t 5) (hcal:gQ P (ρ.f 169)=true) {v:Value} {l:List UInt8} :
   ACalls P G (ρ.f 169) [.ptr 0 0] [rJ T v,tX (ρ.t 5) v l] (fun r h'=>r=.s l∧h'=[.dead,.dead]):=by
 refine ⟨hcal,?_⟩
 intro X w vs g hvl hr
 obtain ⟨a0,rfl⟩:∃ a0,vs = #[a0]:=by
   obtain ⟨vs⟩:=vs
   match vs,hvl with
   | [a0],_=>exact ⟨a0,rfl⟩
 have r0:=hr 0 _ a0 rfl rfl
 obtain ⟨b,p,st⟩:=bAy g
 obtain rfl:a0=selfP b:=by
   cases r0 with
   | ptr hid hnd hι=>rw [st.i0] at hι; cases hι; rfl
   | dead hr0 hid hv=>simp [AV.refs] at hr0; subst hr0; simp [rJ] at hid
 refine (aKb L Y b p v l w st.hb st.own).mono ?_
 rintro e w' ⟨rfl,gr,hshp⟩
 have ext:Ext X w [rJ T v,tX (ρ.t 5) v l] ⟨X.F,fun _=>Option.none⟩ w' [.dead,.dead]:=by
   refine ⟨fun _ h=>h,fun k hk=>gr.block k (g.fbnd k hk) (fun e=>st.f1 k e.symm hk),hshp,?_⟩
   intro id o ho
   match id with
   | 0=>exact ⟨_,rfl,.inl rfl⟩
   | 1=>exact ⟨_,rfl,.inl rfl⟩
   | id+2=>simp at ho
 refine ⟨_,_,_,⟨X.F,fun _=>Option.none⟩,rfl,⟨rfl,rfl⟩,⟨?_,fun id bo h=>(by cases h),fun id id' b o o' h=>(by cases h),fun id b o h=>(by cases h),fun k hk=>eF (g.fbnd k hk) gr.size,fun k a hk=>(g.gl k a hk).mono ext⟩,.s l,⟨⟨gr.size,gr.os,gr.tape,gr.output,?_,fun id b o h=>(by cases h),fun k hk=>.inl hk⟩,ext,?_⟩⟩
 · intro id ob hid
   match id with
   | 0=>simp at hid; subst hid; exact .absent rfl rfl
   | 1=>simp at hid; subst hid; exact .absent rfl rfl
   | id+2=>simp at hid
 · intro k hk hno
   exact gr.block k hk (fun e=>hno 1 0 (by rw [st.i1,← e]; rfl))
 · intro id z hid
   match id with
   | 0=>simp [rJ] at hid
   | 1=>simp [tX] at hid
   | id+2=>simp at hid
end
section
variable {P:Program} {G:Md} {T e:TypeId} {os:List fR} {K:List AV→List AObj→Prop} {env:List AV} {h:List AObj} {d:Option Nat}
theorem aXu {σ:Nat→Nat} {v:Value}:(rJ T v).ren σ=rJ T v:=rfl
theorem aXt {σ:Nat→Nat} {v:Value} {l:List UInt8}:(tX e v l).ren σ=tX e v l:=rfl
theorem bSn {N:Nat}:emb [0,1] N 0=0:=rfl
abbrev Wr (P:Program) (G:Glob) (T e:TypeId) (f:FuncId) (A:List AV) (r:AV) (l l':List UInt8):Prop:=
 ∀ v,ACalls P G f A [rJ T v,tX e v l] (fun r0 h1=>r0=r∧∃ v' tl,h1=rJ T v'::tX e v' l'::tl)
theorem bOh {f:FuncId} {A A0:List AV} {l l':List UInt8} {r:AV} {v:Value} (id iu:Nat) (hG:qY G) (s:Wr P G T e f A0 r l l') (hr:pers r=true) (hne:id ≠ iu)
   (hid:h[id]? = some (rJ T v)) (hiu:h[iu]? = some (tX e v l)) (hA:A=renL (emb [id,iu] h.length) A0)
   (k:∀ v' g,dI P G none os K (gN env d r) ((h.set id (rJ T v')).set iu (tX e v' l')++g)):tW P G none f A d os K env h:=by
 refine eZ (frame (is:=[id,iu]) hG (s v) (by simp [hne]) rfl (fun i o ho=>?_) hA) ?_
 · match i with
   | 0=>simp only [cU,aB] at ho; subst ho; exact hid
   | 1=>simp only [dB,cU,aB] at ho; subst ho; exact hiu
   | i+2=>simp at ho
 · rintro r' h' ⟨r0,h1,⟨rfl,v',tl,rfl⟩,_,rfl,rfl⟩
   rw [yR _ _ hr]
   have e1:rS h [id,iu] (emb [id,iu] h.length) (rJ T v'::tX e v' l'::tl)=(h.set id (rJ T v')).set iu (tX e v' l')++tl.map (AObj.ren (emb [id,iu] h.length)):=by
     simp only [rS,aZ,kH,aL,bG,dM,Nat.reduceAdd,fF,cS,aXu,aXt]
   rw [e1]
   exact k v' _
end
section
variable {P:Program} {G:Md} {T e:TypeId} {os:List fR} {K:List AV→List AObj→Prop} {env:List AV} {h:List AObj} {d:Option Nat}
theorem bOg {f:FuncId} {A:List AV} {l:List UInt8} {v:Value} (id iu:Nat) (hG:qY G) (s:ACalls P G f [.ptr 0 0] [rJ T v,tX e v l] (fun r h'=>r=.s l∧h'=[.dead,.dead])) (hne:id ≠ iu)
   (hid:h[id]? = some (rJ T v)) (hiu:h[iu]? = some (tX e v l)) (hA:A=[.ptr id 0])
   (k:dI P G none os K (gN env d (.s l)) ((h.set id .dead).set iu .dead)):tW P G none f A d os K env h:=by
 refine eZ (frame (is:=[id,iu]) hG s (by simp [hne]) rfl (fun i o ho=>?_) (by rw [hA]; rfl)) ?_
 · match i with
   | 0=>simp only [cU,aB] at ho; subst ho; exact hid
   | 1=>simp only [dB,cU,aB] at ho; subst ho; exact hiu
   | i+2=>simp at ho
 · rintro r' h' ⟨r0,h1,⟨rfl,rfl⟩,_,rfl,rfl⟩
   have e1:rS h [id,iu] (emb [id,iu] h.length) [.dead,.dead]=(h.set id .dead).set iu .dead:=by
     simp only [rS,aZ,bO,kH,aL,bG,dM,Nat.reduceAdd,fF,List.drop_nil,cS,List.append_nil]
     rfl
   rw [e1]
   exact k
end
abbrev W8:Value:=.slice Option.none 0 0
section
variable {P:Program} {G:Md} {Q:Exit→List AV→List AObj→Prop} {env:List AV} {h:List AObj}
theorem bAz {x y:Code} (k:AW P G x (uK (fun env h=>AW P G y Q env h) Q) env h):AW P G (.seq x y) Q env h:=by
 intro X w a g r
 refine wp_seq (wp_mono (k X w a g r) ?_)
 intro e' a' w' k
 cases e' with
 | normal=>
   obtain ⟨env',h',X',k1,k2,k3,k4⟩:=k
   exact wp_mono (k1 X' w' a' k2 k3) (fun e2 a2 w2 k5=>k5.trans k4)
 | _=>exact k
theorem bOp {id:Nat} {o:Oper} {T:TypeId} (e:TypeId) (ho:o.op=.alloc T) (hg:o.guard=Option.none) {i:TypeInfo} {z:Value} (hi:P.info? T=some i) (hz:i.zero=some z) (hc:z.cells = #[.pointer Option.none,W8])
   (k:Q .normal (gN env o.dst (.ptr h.length 0)) (h++[rJ T W8,tX e W8 []])):AW P G (.region id #[o] false) Q env h:=by
 intro X w a g r
 have hp:=gI.alloc w (.cells #[.pointer Option.none,W8] T (0,0))
 have hnF:¬ X.F w.heap.size:=fun f=>by have:=g.fbnd _ f; omega
 obtain ⟨g1,t1⟩:=vP g hp.grew (rJ T W8) (some (w.heap.size,0)) (fun b c hb=>by cases hb; exact ⟨bA _,by have:=hp.size; omega⟩)
   (.held (b:=w.heap.size) (Ctx.upd_same _ _ _) hnF hp.at ⟨_,.pointer Option.none,rfl,.inl rfl⟩)
 obtain ⟨g2,t2⟩:=vP g1 (yP.refl _) (tX e W8 []) Option.none (fun b c hb=>by cases hb) (.away (Ctx.upd_same _ _ _) (.inl ⟨rfl,rfl,rfl⟩))
 rw [bS] at g2 t2
 have t12:=t1.trans t2
 have rp:RV ((X.upd h.length (some (w.heap.size,0))).upd (h++[rJ T W8]).length Option.none) (w.alloc (.cells #[.pointer Option.none,W8] T (0,0))) (h++([rJ T W8]++[tX e W8 []])) (.ptr h.length 0) (.pointer (some ⟨w.heap.size,0,Option.none⟩)):=by
   have:=RV.ptr (X:=(X.upd h.length (some (w.heap.size,0))).upd (h++[rJ T W8]).length Option.none) (w:=w.alloc (.cells #[.pointer Option.none,W8] T (0,0))) (h:=h++([rJ T W8]++[tX e W8 []])) (id:=h.length) (off:=0) (ob:=rJ T W8) (b:=w.heap.size) (o:=0) (by simp) ⟨by simp,rfl⟩ (by rw [Ctx.upd_other _ _ (by simp)]; exact Ctx.upd_same _ _ _)
   simpa using this
 have hrun:(execOp a.eval o).run P w=.ok (.value (.pointer (some ⟨w.heap.size,0,Option.none⟩))) (w.alloc (.cells #[.pointer Option.none,W8] T (0,0))):=by
   unfold execOp
   simp only [ho]
   simp [Instr.alloc,oA hi hz,newVar,hc]
   rfl
 refine wp_region_list ?_
 show wpList P #[o] _ [o] a w
 refine wpList_plain hg (fun K hK=>?_)
 unfold Oper.wp
 rw [hrun]
 exact hK _ _ ⟨_,_,_,k,g2,(r.mono t12.ext).put _ rp,t12⟩
end
end Go.Vo
