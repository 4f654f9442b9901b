/-
  Functions of the chapter, as plain functions of what they are given; no condition.
-/
import Derived.Test.YtdjcggcjlphdoaaGreatDoorVdP17
import Derived.Test.YtdjcggcjlphdoaaGreatDoorVcP16
import Derived.Test.YtdjcggcjlphdoaaGreatDoorVdP14
import Derived.Test.YtdjcggcjlphdoaaGreatDoorVdP15
import Derived.Test.YtdjcggcjlphdoaaGreatDoorVoP22
import Derived.Lib.ItoaLen
set_option maxRecDepth 100000
set_option linter.unusedSimpArgs false
set_option linter.unusedVariables false
set_option maxHeartbeats 4000000
namespace Go.Proofs.YtdjcggcjlphdoaaGreatDoor
open Go Go.Vo
open Nat (reduceAdd reduceSub reduceMul reduceLeDiff reduceLT reduceEqDiff)
open Int (reduceNeg)


def aDd (p:LPr):List AV:=aV p.2
def bNi (u:LSub):Bool:=decide (u.length≤100) && bFu 1500 (u.map (·.2))
theorem bJu (u:LSub) (hl:u.length≤1466015503701) (ho:∀ p ∈ u,OkT p.2): CT 39 [avu u] (.b (bNi u)):=by
 refine dN cU Tryz.func39 g0 ?_
 · simp -implicitDefEqProofs (disch:=omega) only [Tryz.f39,go_sem,List.replicate,simprocAttr,avu]
   rw [bNi]
   by_cases h1:u.length≤100
   · have h1i:decide ((100:Int) < ((u.length:Nat):Int))=false:=zf (by omega)
     refine zh h1i ?_
     have c:=aZr 1500 (u.map (·.2)) (by rw [dC]; omega) (fun t ht=>by obtain ⟨p,hp,rfl⟩:=gK.1 ht; exact ho p hp) (by decide) (by decide)
     have e:(u.map (·.2)).flatMap aV=u.flatMap aDd:=by rw [List.flatMap_map]; rfl
     simp only [avt,e,dC] at c
     refine dB (fun (q:Nat × AV × List AObj)=>(.k::.k::.k::.v (q.2.1)::.k::.j::(rp 5 .k (.v (.i .i64 (q.1:Nat))::(rp 9 .j [.k,.k]))))) (fun q=>q.2.2) (fun q=>q.1≤u.length∧gW 6 0 q.2.2 q.2.1 ((u.take q.1).flatMap aDd) (u.take q.1).length) (fun q=>u.length - q.1) ((0,.e0,[])) ⟨bJ _,iI⟩ rfl (by simp [gX]) ?_
     rintro ⟨k,out,g⟩ j ⟨hk,hb⟩
     dsimp only at hk hb
     by_cases hlt:k < u.length
     · have hki:decide ((k:Int) < ((u.length:Nat):Int))=true:=zt (by omega)
       have hX:(u.take (k+1)).flatMap aDd=(u.take k).flatMap aDd++aDd (u.getD k default):=nV hlt
       have hl:(u.take k).length≤1000000:=by rw [cH]; omega
       have hl2:(u.take (k+1)).length=(u.take k).length+1:=by rw [cH,cH]; omega
       refine zh (zA2 hki (zA2 @prT.eq_1 (zA2 @aS (zA2 @nW (zA2 @dY.{0} (zA2 @fC.{0} @List.append_nil.{0})))))) ?_
       repeat refine bG (by omega) ?_
       refine eK (pre:=[]) (g:=g) (more:=[.box false (.s (u.getD k default).1::(tmC ((u.getD k default).2))),.arr false 6 ((tmC ((u.getD k default).2)))]) (news:=(tmC ((u.getD k default).2))) (m:=1) hb rfl ?_ aZb aXm aXq aZx rfl (by decide) ?_ ?_ ⟨by omega,by omega⟩ ?_
       · simp only [aI,aK,cD]
       · exact zu
       · exact zu
       intro out' g' ho' _
       refine zg ?_
       refine ⟨(k+1,out',g'),⟨by dsimp only; omega,?_⟩,by dsimp only; omega,rfl,by simp⟩
       dsimp only
       rw [hX,hl2,aDd,aS]
       exact ho'
     · have hki:decide ((k:Int) < ((u.length:Nat):Int))=false:=zf (by omega)
       obtain rfl:k=u.length:=by omega
       rw [bD (bQ _)] at hb
       have hp:persL (u.flatMap aDd)=true:=lK fun x _=>vX _
       obtain ⟨k1,g',k2,k3⟩:=pK (pre:=[]) hb hp
       simp only [aK] at k1
       refine zh hki ?_
       refine bU c ?_ ?_
       · exact zv @k1
       refine zg ?_
       exact bR (by rw [zt h1,aO]) rfl
   · have h1i:decide ((100:Int) < ((u.length:Nat):Int))=true:=zt (by omega)
     refine zh h1i ?_
     exact bR (by rw [zf h1,aP]) rfl
mutual
theorem V4:∀ (t:LTerm) (m d:Int),-1≤m→0≤nT t m d→(nodesT t:Int)+nT t m d≤m
 | .mk k n t s ks rs,m,d,hm,h=>by
   have h0:=aKs (t.length+s.length)
   rw [Int.natCast_add] at h0
   rw [nT] at h ⊢
   split at h
   · omega
   · rename_i hc
     rw [if_neg hc]
     split at h
     · omega
     · rename_i hd
       rw [if_neg hd,if_neg hd]
       have l1:=partsL_le ks (m - (1+Int.tdiv (t.length+s.length) 50)) (d+1) (by omega)
       have l2:=partsL_le rs (partsL ks (m - (1+Int.tdiv (t.length+s.length) 50)) (d+1)) (d+1) l1.1
       have h1:=partsL_nodes ks (m - (1+Int.tdiv (t.length+s.length) 50)) (d+1) (by omega) (by omega)
       have h2:=partsL_nodes rs (partsL ks (m - (1+Int.tdiv (t.length+s.length) 50)) (d+1)) (d+1) l1.1 h
       have h3:=lM rs
       have e:nodesT (.mk k n t s ks rs)=1+rs.length+nodesL ks:=by rw [nodesT]
       rw [e]
       omega
theorem partsL_nodes:∀ (l:List LTerm) (m d:Int),-1≤m→0≤partsL l m d→(nodesL l:Int)+partsL l m d≤m
 | [],m,d,hm,h=>by rw [partsL,nodesL]; omega
 | t :: l,m,d,hm,h=>by
   rw [partsL] at h ⊢
   split at h
   · omega
   · rename_i hc
     rw [if_neg hc]
     have l1:=V5 t m d hm
     have h1:=V4 t m d hm (by omega)
     have h2:=partsL_nodes l (nT t m d) d l1.1 h
     have e:nodesL (t::l)=nodesT t+nodesL l:=by rw [nodesL]
     rw [e]
     omega
end
theorem Z7 {m:Nat} {l:List LTerm} (h:bFu m l=true):nodesL l≤m:=by
 rw [bFu,decide_eq_true_eq,kY] at h
 split at h
 · omega
 · have:=partsL_nodes l m 0 (by omega) h
   omega
theorem aVj {m:Nat} {l:List LTerm} (h:bFu m l=true) {t:LTerm} (ht:t ∈ l):nodesT t≤m:=jF (iX ht).1 (Z7 h)
def bIt (s:eD) (u:LSub) (l:List LTerm):Bool:=few s && bNi u && bFu 1500 l
theorem bJz (s:eD) (u:LSub) (l:List LTerm) (hs:OkS s) (hul:u.length≤1466015503701) (hu:∀ p ∈ u,OkT p.2) (hl:l.length≤1466015503701) (ho:∀ t ∈ l,OkT t): CT 10 [.agg (dD s),avu u,avt l] (.b (bIt s u l)):=by
 refine dN cU Tryz.func10 g0 ?_
 · simp -implicitDefEqProofs (disch:=omega) only [Tryz.f10,go_sem,List.replicate,simprocAttr,avu,avt]
   have c2:=bJu u hul hu
   simp only [avu] at c2
   (refine zt3 (bQn s hs) c2 (aZr 1500 l hl ho (by decide) (by decide)) ?_; repeat' first | exact trivial | refine zJ ?_ ?_ | refine zH fun hc=>?_)
   all_goals refine bR ?_ rfl
   all_goals simp only [bIt, *,decide_true,decide_false,aO,aP,aX,aM]
theorem bAu {a b:LSub} (hl:a.length=b.length) (h:∀ j,j < a.length→(a.getD j default).1=(b.getD j default).1∧(a.getD j default).2=(b.getD j default).2):a=b:=by
 refine S0 hl fun i h1 h2=>?_
 have:=h i h1
 rw [eM,eM,bW h1,bW h2] at this
 exact Prod.ext this.1 this.2
theorem bJx (a b:LSub) (ha:OkU 1000000 a) (hb:OkU 1000000 b): CT 17 [avu a,avu b] (.b (decide (a=b))):=by
 refine dN cU Tryz.func17 g0 ?_
 · simp -implicitDefEqProofs (disch:=omega) only [Tryz.f17,go_sem,List.replicate,simprocAttr,avu]
   have hal:=ha.1
   have hbl:=hb.1
   by_cases hl:a.length=b.length
   · have hli:((a.length:Nat):Int)=((b.length:Nat):Int):=by omega
     refine zh (zt hli) ?_
     refine dB (fun (q:Nat)=>(.k::.k::.k::.k::.j::.j::(rp 7 .k (.v (.i .i64 (q:Nat))::(rp 28 .j []))))) (fun q=>[]) (fun q=>q≤a.length∧∀ j,j < q→(a.getD j default).1=(b.getD j default).1∧(a.getD j default).2=(b.getD j default).2) (fun q=>a.length - q) (0) ⟨bJ _,fun j h=>absurd h (Nat.not_lt_zero j)⟩ rfl (by simp [gX]) ?_
     rintro k j ⟨hk,hb'⟩
     by_cases hlt:k < a.length
     · have hki:decide ((k:Int) < ((a.length:Nat):Int))=true:=zt (by omega)
       have hma:=ha.2 _ (cQ (d:=default) hlt)
       have hmb:=hb.2 _ (cQ (d:=default) (hl ▸ hlt))
       have c:=aZs (a.getD k default).2 (b.getD k default).2 hma hmb
       have hp1:=M4 hlt
       have hp2:=M4 (u:=b) (k:=k) (by omega)
       have hne:∀ P:Prop,(a=b→P)→(¬ P)→decide (a=b)=false:=fun P h1 h2=>zf fun e=>h2 (h1 e)
       by_cases h1:(a.getD k default).1=(b.getD k default).1
       · refine zh (zA2 hki (zA2 @prT.eq_1 (zA2 @aS (zA2 hp1 (zA2 hp2 (zt h1)))))) ?_
         repeat refine bG (by omega) ?_
         refine bU c ?_ ?_
         · exact zv (zA2 @elT.eq_1 @aS)
         by_cases h2:(a.getD k default).2=(b.getD k default).2
         · refine zh (zt h2) ?_
           refine ⟨k+1,⟨by omega,fun i hi=>?_⟩,by omega,by simp⟩
           rcases kG i k with h | h
           · exact hb' i h
           · obtain rfl:i=k:=by omega
             exact ⟨h1,h2⟩
         · refine zh (zf h2) ?_
           exact bR (by rw [zf (fun e=>h2 (by rw [e]))]) rfl
       · refine zh (zA2 hki (zA2 @prT.eq_1 (zA2 @aS (zA2 hp1 (zA2 hp2 (zf h1)))))) ?_
         repeat refine bG (by omega) ?_
         exact bR (by rw [zf (fun e=>h1 (by rw [e]))]) rfl
     · have hki:decide ((k:Int) < ((a.length:Nat):Int))=false:=zf (by omega)
       obtain rfl:k=a.length:=by omega
       refine zh hki ?_
       exact bR (by rw [zt (bAu hl hb')]) rfl
   · have hli:¬ ((a.length:Nat):Int)=((b.length:Nat):Int):=by omega
     refine zh (zf hli) ?_
     exact bR (by rw [zf (fun e=>hl (by rw [e]))]) rfl




def evB (t:LTerm):Bool := !decide (t.kind=8) || decide (t.kids.length % 2=0)


theorem bMb {N:DR} {f:FuncId} {A A0:List AV} {r:AV} {d:Option Nat} {os:List fE} {K:List AV→List AObj→Prop} {env:List AV} {cells cells':List AV} {t:List AObj} (c:ACalls Tryz.prog G0 f A0 [.box false cells] (fun r0 h1=>r0=r∧h1=[.box false cells'])) (hp:persL cells=true) (hp':persL cells'=true) (hr:pers r=true)
   (hA:A=renL (emb [0] (.box false cells::t).length) A0) (hn:¬ N.old 0) (k:cX Tryz.prog (pl G0) (some N) os K (gN env d r) (.box false cells'::t)):bMg Tryz.prog (pl G0) N f A d os K env (.box false cells::t):=
 bMc (C7 0 g0 c hp hp' hr rfl hA) rfl (aVa hn) k
theorem zW:∀ {a b:List LTerm},nodesL (a++b)=nodesL a+nodesL b
 | [],b=>by rw [aK,nodesL]; omega
 | t::a,b=>by rw [aI,nodesL,nodesL,zW]; omega
theorem aIh (t:LTerm):nodesL [t]=nodesT t:=by simp [nodesL]
theorem aYz {t:LTerm}:∀ (n:Nat) (t:LTerm),nodesT t≤n→wfT eG t=true→wfT evB t=true
 | 0,t,h,_=>by rw [eI] at h; omega
 | n + 1,t,h,hw=>by
   have hno:=eI t
   have hw':=kS.1 hw
   refine kS.2 ⟨?_,fun k hk=>aYz (t:=t) n k (by have:=(iX hk).1; omega) (hw'.2 k hk)⟩
   rw [evB]
   by_cases h8:t.kind=8
   · have e:=hw'.1
     rw [eG] at e
     simp only [h8,(by decide:¬ (8:Int)=1),(by decide:¬ (8:Int)=2),(by decide:¬ (8:Int)=3),(by decide:¬ (8:Int)=4),(by decide:¬ (8:Int)=5),(by decide:¬ (8:Int)=6),(by decide:¬ (8:Int)=7),if_false,if_true,aE,decide_eq_true_eq] at e
     rw [zt e.1.2,bB]
   · rw [zf h8]; rfl
theorem bJr (u:LSub): CT 76 [tmA u] (.b true):=by
 refine dN cU Tryz.func76 g0 ?_
 · simp -implicitDefEqProofs (disch:=omega) only [Tryz.f76,go_sem,List.replicate,simprocAttr,tmA]
   (refine zs0 ?_; repeat' first | exact trivial | refine zJ ?_ ?_ | refine zH fun hc=>?_)
   all_goals exact bR rfl rfl
end Go.Proofs.YtdjcggcjlphdoaaGreatDoor
