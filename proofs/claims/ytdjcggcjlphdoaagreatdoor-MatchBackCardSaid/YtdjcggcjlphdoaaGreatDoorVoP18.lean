/-
  The abstract layer, part Z: paths that meet again. It speaks of any program; no condition.
-/
import Derived.Test.YtdjcggcjlphdoaaGreatDoorVoP15
set_option linter.unusedVariables false
set_option linter.unusedSimpArgs false
namespace Go.Vo
section
variable {P:Program} {G:Md} {K K':AV→List AObj→Prop}
theorem qY{x:Option (AV×List AObj)}(hK:∀r h,K r h→K' r h)(o:F9 x K):F9 x K':=by
 cases x with
 |none=>exact o
 |some p=>exact hK _ _ o
theorem aQj{pn:Value→List AObj→Prop}{dr:Bool}{f:FuncId}{A:List AV}{h:List AObj}(hK:∀r h,K r h→K' r h)(k:G5 P G pn dr f A h K):G5 P G pn dr f A h K':=by
 cases dr with
 |true=>obtain⟨r,s,k⟩:=k;exact⟨r,s,hK _ _ k⟩
 |false=>exact k.imp (fun k=>ACalls.mono k hK) id
theorem Z0{c:AV}{A B A' B':Prop}(hA:A→A')(hB:B→B')(k:tH c A B):tH c A' B':=by
 cases c<;>simp only[tH]at k ⊢;exact⟨fun h=>hA (k.1 h),fun h=>hB (k.2 h)⟩
theorem aRr{dr:Bool}{env:List AV}{h:List AObj}{c:Call}(hK:∀r h,K r h→K' r h)(a:nR P G dr env h c K):nR P G dr env h c K':=by
 unfold nR at a ⊢;cases hc:c.callee with
 |builtin b=>
  rw[hc]at a;cases b;case append=>
   simp only at a ⊢;split at a
   ·split at a
    ·rename_i hT;rw[if_pos hT];split at a
     ·rename_i hw;rw[if_pos hw];exact qY hK a
     ·rename_i hw;rw[if_neg hw];exact qY hK a
    ·rename_i hT;rw[if_neg hT];split at a
     ·exact qY hK a
     ·exact a.elim
   ·exact a.elim
  all_goals exact qY hK a
 |value fx=>
  rw[hc]at a;simp only at a ⊢;split at a
  ·exact aQj hK a
  ·exact a.elim
 |invoke=>rw[hc]at a;exact a.elim
theorem Q9{dr:Bool}{o:Op}{env:List AV}{h:List AObj}(hK:∀r h,K r h→K' r h)(a:fY P G dr o K env h):fY P G dr o K' env h:=by
 cases o;case call c=>exact aRr hK a
 case mapUpdate T m k x=>
  unfold fY at a ⊢;simp only at a ⊢;split at a
  ·rename_i hp;rw[if_pos hp];split at a
   ·exact hK _ _ a
   ·exact a.elim
  ·rename_i hp;rw[if_neg hp];split at a
   ·exact hK _ _ a
   ·exact a.elim
 case range T x=>
  unfold fY at a ⊢;simp only at a ⊢;split at a
  ·exact a.elim
  ·rename_i hd;rw[if_neg hd];split at a
   ·exact hK _ _ a
   ·exact hK _ _ a
   ·exact a.elim
 case next x b=>
  cases b
  ·unfold fY at a ⊢;simp only at a ⊢;split at a
   ·exact a.elim
   ·rename_i hd;rw[if_neg hd];split at a
    ·split at a
     ·exact⟨fun h=>hK _ _ (a.1 h),fun j k v h1 h2=>hK _ _ (a.2 j k v h1 h2)⟩
     ·exact a.elim
    ·exact a.elim
  ·unfold fY at a ⊢;simp only at a ⊢;split at a
   ·exact a.elim
   ·rename_i hd;rw[if_neg hd];split at a
    ·split at a
     ·exact⟨fun h=>hK _ _ (a.1 h),fun c h1=>⟨fun h2=>hK _ _ ((a.2 c h1).1 h2),fun rn k h2 h3 h4 h5=>hK _ _ ((a.2 c h1).2 rn k h2 h3 h4 h5)⟩⟩
     ·exact a.elim
    ·exact a.elim
 case entry x=>
  unfold fY at a ⊢;simp only at a ⊢;split at a
  ·exact a.elim
  ·rename_i hd;rw[if_neg hd];split at a
   ·split at a
    ·exact hK _ _ a
    ·exact a.elim
   ·exact a.elim
 case makeMap T r=>
  cases r with
  |none=>
   unfold fY at a ⊢;cases dr<;>exact hK _ _ a
  |some _=>exact False.elim a
 all_goals first|exact hK _ _ a|exact qY hK a|exact False.elim a|exact a
theorem aVp{T:TypeId}{v:AV}{K K':AV→Prop}(hK:∀r,K r→K' r)(a:bJi P T v K):bJi P T v K':=by
 unfold bJi at a ⊢;split at a
 ·split at a
  ·exact⟨hK _ a.1,hK _ a.2⟩
  ·exact⟨fun h=>hK _ (a.1 h),hK _ a.2⟩
  ·exact a.elim
 ·exact a.elim
theorem aTw{dr:Option DR}{op:Op}{env:List AV}{h:List AObj}(hK:∀r h,K r h→K' r h)(a:pS P G dr op K env h):pS P G dr op K' env h:=by
 unfold pS at a ⊢;split at a
 ·exact aVp (fun r=>hK r h) a
 ·first
   |exact Q9 hK a
   |(split at a
     ·split at a
      ·exact hK _ _ a
      ·exact Q9 hK a
     ·exact Q9 hK a)
theorem aDk{dr:Option DR}{ck:Bool}{op:Op}{env:List AV}{h:List AObj}(hK:∀r h,K r h→K' r h)(a:aPp P G dr ck op K env h):aPp P G dr ck op K' env h:=by
 unfold aPp at a ⊢;split
 ·rename_i T len ps hv;rw[hv]at a;exact qY hK a
 ·rename_i hv;rw[hv]at a;simp only at a ⊢;split
  ·rename_i c N hz;rw[hz]at a;obtain⟨x,h',h1,h2,h3⟩:=a;exact⟨x,h',h1,h2,hK _ _ h3⟩
  ·rename_i hz;rw[hz]at a;exact aTw hK a
theorem fK{dr:Option DR}{K K':List AV→List AObj→Prop}(hK:∀e h,K e h→K' e h):∀{os:List gA} {env:List AV} {h:List AObj},dN P G dr os K env h→dN P G dr os K' env h
 | [],_,_,a=>hK _ _ a
 |o::os,env,h,a=>by
  rw[dN]at a ⊢;split at a
  ·exact⟨a.1,aDk (fun r h'=>fK hK) a.2⟩
  ·exact Z0 (fun a=>⟨a.1,aDk (fun r h'=>fK hK) a.2⟩) (fK hK) a
theorem bRm{c:Code}{Q Q':Exit→List AV→List AObj→Prop}{env:List AV}{h:List AObj}(hQ:∀x e h,Q x e h→Q' x e h)(a:AW P G c Q env h):AW P G c Q' env h:=fun X w ac g r=>
 wp_mono (a X w ac g r) fun e a' w' ⟨env',h',X',k,g',r',t⟩=>⟨env',h',X',by cases e<;>first|exact hQ _ _ _ k|exact k,g',r',t⟩
theorem lW:∀{c:kN} {Q Q':Exit→List AV→List AObj→Prop} {env:List AV} {h:List AObj},(∀x e h,Q x e h→Q' x e h)→awx P G c Q env h→awx P G c Q' env h
 | .skip,_,_,_,_,hQ,a=>hQ _ _ _ a
 | .region ops,_,_,_,_,hQ,a=>fK (hQ _) a
 | .draw th ops,_,_,_,_,hQ,a=>fK (hQ _) a
 | .seq x y,_,_,_,_,hQ,a=>by
   rw[awx]at a ⊢;refine lW (fun x e h k=>?_) a;cases x;case normal=>exact lW hQ k
   all_goals exact hQ _ _ _ k
 | .raw c,_,_,_,_,hQ,a=>bRm hQ a
 | .cond c x y,_,_,_,_,hQ,a=>Z0 (lW hQ) (lW hQ) a
 | .block id c,Q,Q',_,_,hQ,a=>by
   rw[awx]at a ⊢;refine lW (fun x e h k=>?_) a;cases x;case exit i=>
    simp only[F0]at k ⊢;split at k
    ·rename_i hi;rw[if_pos hi];exact hQ _ _ _ k
    ·rename_i hi;rw[if_neg hi];exact hQ _ _ _ k
   all_goals exact hQ _ _ _ k
 | .loop c,_,_,_,_,hQ,a=>by
   obtain⟨S,I,μ,s0,h0,r⟩:=a;refine⟨S,I,μ,s0,h0,fun s env h hI=>lW (fun x e h k=>?_) (r s env h hI)⟩;cases x;case normal=>exact k
   all_goals exact hQ _ _ _ k
 | .exit id,_,_,_,_,hQ,a=>hQ _ _ _ a
 | .ret,_,_,_,_,hQ,a=>hQ _ _ _ a
theorem bSz{a b:kN}{Q:Exit→List AV→List AObj→Prop}{env:List AV}{h:List AObj}(ps:List aSc)(hp:List AObj)
 (first:awx P G a (tW (fun e' h'=>h'=hp∧hZ ps env e') Q) env h)
 (rest:∀j:Nat→AV,awx P G b Q (rX j 0 ps env) hp):awx P G (.seq a b) Q env h:=by
 rw[awx];refine lW (fun x e h' k=>?_) first
 cases x;case normal=>
  obtain⟨rfl,hf⟩:=k;have he:rX (fun n=>e.getD n .u) 0 ps env=e:=aAw _ env e 0 _ (fun m v hv=>by simp[List.getD,hv]) hf;have r:=rest (fun n=>e.getD n .u);rw[he]at r;exact r
 all_goals exact k
theorem bSx{a b:kN}{Q:Exit→List AV→List AObj→Prop}{env:List AV}{h:List AObj}(ps:List aSc)
 (first:awx P G a (tW (fun e' h'=>h'=h∧hZ ps env e') Q) env h)
 (rest:∀j:Nat→AV,awx P G b Q (rX j 0 ps env) h):awx P G (.seq a b) Q env h:=bSz ps h first rest
theorem bCp{a b:kN}{Q:Exit→List AV→List AObj→Prop}{env:List AV}{h:List AObj}(k:∀K:List AV→List AObj→Prop,awx P G b Q=K→awx P G a (tW K Q) env h):awx P G (.seq a b) Q env h:=by rw[awx];exact k _ rfl
end
section
variable {P:Program} {G:Glob} {X:Ctx} {w:World} {h:List AObj}
end
def aNj:AV→Bool
 | .e0=>true
 |a=>pers a
def bIs(h:List AObj)(a:AV):List Nat:=eH dep h a
def hsQ(o:Option AObj)(id:Nat)(alt:List Nat):List Nat:=
 match o with
 |some (.arr _ _ cells)=>if cells.all aNj then [id]else alt
 |_=>alt
def cAw(cells:List AV)(alt:List Nat):List Nat:=if cells.all aNj then []else alt
theorem mZ{h:List AObj}{a:AV}{k:Nat}(e:aNj a=true):eH k h a=[]:=by
 cases k with
 |zero=>rfl
 |succ k=>
  rw[eH];by_cases hp:pers a=true
  ·rw[if_pos hp]
  ·rw[if_neg hp];cases a with
   |e0=>rfl
   |_=>exact absurd e hp
theorem L7{h:List AObj}{l:List AV}{k:Nat}(e:l.all aNj=true):l.flatMap (eH k h)=[]:=by
 induction l with
 |nil=>rfl
 |cons a l ih=>
  rw[oQ,aA]at e;rw[List.flatMap_cons,mZ e.1,ih e.2,List.append_nil]
theorem yI{h:List AObj}{id off n:Nat}{t:Bool}:eH dep h (.hs id off n t)=hsQ h[id]? id (bIs h (.hs id off n t)):=by
 cases ho:h[id]? with
 |none=>rfl
 |some o=>
  cases o with
  |arr fz sz cells=>
   simp only[hsQ];split
   ·rename_i e;have e2:((cells.drop off).take (n*sz)).all aNj=true:=bF.2 fun x hx=>bF.1 e x (fL (dH hx));rw[L8];simp only[pers,aE,if_false,aLr,ho,L7 e2,ite_self]
   ·rfl
  |_=>rfl
theorem L9{h:List AObj}{cells:List AV}:eH dep h (.agg cells)=cAw cells (bIs h (.agg cells)):=by
 unfold cAw;split
 ·rename_i e;rw[L8];by_cases hp:pers (.agg cells)=true
  ·rw[if_pos hp]
  ·rw[if_neg hp];simp only[aLr,L7 e,ite_self]
 ·rfl
attribute [go_sem ↓] yI L9
attribute [go_sem] hsQ cAw aNj oQ List.all_nil
end Go.Vo
