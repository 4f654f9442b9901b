/-
  The abstract layer, part U: values as they read, some levels deep, by rewriting. It speaks of any program; no condition.
-/
import Derived.Test.YtdjcggcjlphdoaaGreatDoorVoP14
set_option linter.unusedVariables false
set_option linter.unusedSimpArgs false
set_option linter.constructorNameAsVariable false
namespace Go.Vo
def bUc(k:Nat)(h:List AObj)(a:AV):AV:=
 let L:=fun l=>if persL l then l else l.map (gZ k h)
 match a with
 | .e0=>.sl [] 0
 | .hs id off n _=>match h[id]? with
   |some (.arr _ sz cells)=>if off+n*sz≤cells.length then .sl (L ((cells.drop off).take (n*sz))) n else .u
   |_=>.u
 | .ptr id off=>match h[id]? with
   |some (.box _ cells)=>.box (L cells) off
   |some (.arr _ _ cells)=>.box (L cells) off
   |_=>.u
 | .mp id=>match h[id]? with
   |some (.map _ ks vs)=>.mapv (L ks) (L vs)
   |_=>.u
 | .fn f a b=>.fn f (L a) (L b)
 | .agg cs=>.agg (L cs)
 | .tup vs=>.tup (L vs)
 |_=>.u
def aLr(k:Nat)(h:List AObj)(a:AV):List Nat:=
 let L:=fun l=>if persL l then []else l.flatMap (eH k h)
 match a with
 | .hs id off n _=>match h[id]? with
   |some (.arr _ sz cells)=>id::L ((cells.drop off).take (n*sz))
   |_=>[]
 | .ptr id off=>match h[id]? with
   |some (.box _ cells)=>id::L cells
   |some (.arr _ _ cells)=>id::L cells
   |_=>[]
 | .mp id=>match h[id]? with
   |some (.map _ ks vs)=>id::(L ks++L vs)
   |_=>[]
 | .fn f a b=>L a++L b
 | .agg cs=>L cs
 | .tup vs=>L vs
 |_=>[]
theorem L8{h:List AObj}{a:AV}:eH dep h a=if pers a then []else aLr 8 h a:=rfl
theorem bUb{h:List AObj}{a:AV}:gZ 8 h a=if pers a then a else bUc 7 h a:=rfl
theorem cKw{a:AObj}{l:List AObj}{f:AObj→AObj}:(a::l).modify 0 f=f a::l:=rfl
theorem cKv{a:AObj}{l:List AObj}{n:Nat}{f:AObj→AObj}:(a::l).modify (n+1) f=a::l.modify n f:=rfl
theorem bJv{l m:List AObj}{n:Nat}{f:AObj→AObj}:(l++m).modify (l.length+n) f=l++m.modify n f:=by
 apply oP;intro i;rw[gQ];by_cases h:i<l.length
 ·rw[aG h,aG h];have:l.length+n≠i:=by omega
  simp[this]
 ·rw[aR (by omega),aR (by omega),gQ];by_cases e:l.length+n=i
  ·subst e;simp
  ·have:n≠i-l.length:=by omega
   simp[e,this]
theorem bPp{l m:List AObj}{f:AObj→AObj}:(l++m).modify l.length f=l++m.modify 0 f:=by
 have:=bJv (l:=l) (m:=m) (n:=0) (f:=f);simpa using this
attribute [go_sem] L8 bUb bUc aLr cKw cKv bJv bPp
end Go.Vo
