/-
  The abstract layer, part U: values as they read, some levels deep, by rewriting. It speaks of any program; no condition.
-/
import Derived.Test.YtdjcggcjlphdoaaGreatDoorVoP74
set_option linter.unusedVariables false
set_option linter.unusedSimpArgs false
set_option linter.constructorNameAsVariable false
namespace Go.Vo
def bJo(k:Nat)(h:List AObj)(a:AV):AV:=
 let L:=fun l=>if persL l then l else l.map (iA k h)
 match a with
 | .e0=>.sl [] 0
 | .hs id off n _=>match h[id]? with
   |some (.arr _ sz cells)=>if off+n*sz≤cells.length then .sl (L ((cells.drop off).take (n*sz))) n else .u
   |_=>.u
 | .ptr id off=>match h[id]? with
   |some (.box _ cells)=>.box (L cells) off
   |some (.arr _ _ cells)=>.box (L cells) off
   |_=>.u
 | .mp id=>match h[id]? with
   |some (.map _ ks vs)=>.mapv (L ks) (L vs)
   |_=>.u
 | .fn f a b=>.fn f (L a) (L b)
 | .agg cs=>.agg (L cs)
 | .tup vs=>.tup (L vs)
 |_=>.u
def aJw(k:Nat)(h:List AObj)(a:AV):List Nat:=
 let L:=fun l=>if persL l then []else l.flatMap (eL k h)
 match a with
 | .hs id off n _=>match h[id]? with
   |some (.arr _ sz cells)=>id::L ((cells.drop off).take (n*sz))
   |_=>[]
 | .ptr id off=>match h[id]? with
   |some (.box _ cells)=>id::L cells
   |some (.arr _ _ cells)=>id::L cells
   |_=>[]
 | .mp id=>match h[id]? with
   |some (.map _ ks vs)=>id::(L ks++L vs)
   |_=>[]
 | .fn f a b=>L a++L b
 | .agg cs=>L cs
 | .tup vs=>L vs
 |_=>[]
theorem I5{h:List AObj}{a:AV}:eL dep h a=if pers a then []else aJw 8 h a:=rfl
theorem bQp{h:List AObj}{a:AV}:iA 8 h a=if pers a then a else bJo 7 h a:=rfl
theorem bQq{h:List AObj}{a:AV}:iA 7 h a=if pers a then a else bJo 6 h a:=rfl
theorem cGg{a:AObj}{l:List AObj}{f:AObj→AObj}:(a::l).modify 0 f=f a::l:=rfl
theorem cGf{a:AObj}{l:List AObj}{n:Nat}{f:AObj→AObj}:(a::l).modify (n+1) f=a::l.modify n f:=rfl
theorem bGp{l m:List AObj}{n:Nat}{f:AObj→AObj}:(l++m).modify (l.length+n) f=l++m.modify n f:=by
 apply oB;intro i;rw[gL];by_cases h:i<l.length
 ·rw[aN h,aN h];have:l.length+n≠i:=by omega
  simp[this]
 ·rw[aX (by omega),aX (by omega),gL];by_cases e:l.length+n=i
  ·subst e;simp
  ·have:n≠i-l.length:=by omega
   simp[e,this]
theorem bMk{l m:List AObj}{f:AObj→AObj}:(l++m).modify l.length f=l++m.modify 0 f:=by
 have:=bGp (l:=l) (m:=m) (n:=0) (f:=f);simpa using this
attribute [go_sem] I5 bQp bQq bJo aJw cGg cGf bGp bMk
end Go.Vo
