/- Walks of the references; the orders agree; examples. -/
import Derived.Lib.SliceRun
import Derived.Test.YtoakhncbmpdacaaGe
set_option linter.unusedSimpArgs false
set_option linter.unusedVariables false
namespace Go.Proofs.Ytoakhncbmpdacaa
open Go Go.Tx Go.Proofs.Try
set_option maxRecDepth 100000
set_option maxHeartbeats 0
end Go.Proofs.Ytoakhncbmpdacaa

namespace Go.Tx
open Go
section
variable {P:Program} {V:Nat→Value→Prop} {Q:Exit→Act→World→Prop} {ops:Array Oper}
end
section
variable {P:Program} {T:Tys} {C:Orc} {N:Nat} {V:Nat→Value→Prop} {w0:World} {φ0:Fz0} {Q:Exit→Act→World→Prop}
end
structure MSpec where
  g:FuncId
  τ1:List Pk
  ρ:Row
  τ2:List Pk
  σ:Row
  k:IntKind
  F:dens τ1→den ρ→dens τ2→List (den σ)→Option (Int×List (den σ))
structure COKM (P:Program) (S:MSpec):Prop where
  ok:∀ x1 a x2 xs r,S.F x1 a x2 xs=some r→∀ (w:World) (η:Emb) (vs:List Value),(∀ M,HR M η (cmem xs) w)→VRs η (q9o S.τ1 x1 ++ .agg (split S.ρ a ++ [.rs 0]) :: q9o S.τ2 x2) vs →
    Calls P S.g vs.toArray w fun e w'=>e=.returned (.int S.k r.1)∧(∀ M,HR M η (cmem r.2) w')∧Fr w (cFz xs η) (cmem r.2) η w'
  body:q5q P S.g
section
variable {P:Program} {M:Nat} {H:LH} {η:Emb} {w:World}
end
end Go.Tx

namespace Go.Proofs.Ytoakhncbmpdacaa
open Go Go.Tx Go.Proofs.Try
set_option maxRecDepth 100000
set_option maxHeartbeats 0
end Go.Proofs.Ytoakhncbmpdacaa

namespace Go.Tx
open Go
section
variable {P:Program} {T:Tys} {C:Orc} {w0:World} {φ0:Fz0} {N:Nat} {Q:Exit→Act→World→Prop}
theorem q21s (hm:P.follows .mixedOrders=true) (hT:TysOK P T) (hC:OrcOK P C) {rid:Nat} {ops:Array Oper} {draw:Bool} {keep:List (Nat×Kd)} {s s2:St} (hreg:treg T C N ops draw keep s some=some s2) (hk:Cn w0 φ0 N s2 Q .normal):Run P w0 φ0 N (.region rid ops draw) s Q:=by
  obtain ⟨s',h3,h4⟩:=q8y (D:=φ0.D) hm hT hC hreg
  injection h3 with h3;subst h3
  exact fun a w hs=>h4 w0 φ0 rid a w Q rfl hs hk
theorem q21t {a:Act} {o:Oper} {d n:Nat} {v u:Value} (hd:o.dst=some d) (hne:n≠d) (h:a.tmps[n]?=some u):(a.put o.dst v).tmps[n]?=some u:=by
  rw [hd]
  show (a.tmps.setIfInBounds d v)[n]?=some u
  rw [Array.getElem?_setIfInBounds_ne (Ne.symm hne)];exact h
theorem q21u {a:Act} {o:Oper} {d:Nat} {v:Value} (hd:o.dst=some d) (hlt:d<a.tmps.size):(a.put o.dst v).tmps[d]?=some v:=by
  rw [hd]
  show (a.tmps.setIfInBounds d v)[d]?=some v
  rw [Array.getElem?_setIfInBounds_self_of_lt hlt]
theorem q21v {a:Act} {d:Option Tmp} {v:Value}:(a.put d v).tmps.size=a.tmps.size:=by
  cases d with
  | none=>rfl
  | some d=>exact Array.size_setIfInBounds ..
theorem q21w {a:Act} {d:Option Tmp} {v:Value}:(a.put d v).defers=a.defers:=by
  cases d<;>rfl
theorem q21x {α:Type} {c:Bool} {a:α} (h:c=true):(bif c then some a else none)=some a:=by rw [h];rfl
theorem q21y {rid:Nat} {ops:Array Oper} {o1 o2:Oper} {src t1 t2:Nat} {ty e yt:TypeId} {τ:Row} {xs:List (den τ)} (hops:ops.toList=[o1,o2]) (g1:o1.guard=none) (p1:o1.op=.move (.tmp src)) (d1:o1.dst=some t1) (g2:o2.guard=none)
    (p2:o2.op=.binOp .eql ty (.tmp t1) (.const (.slice none 0 0)) yt) (d2:o2.dst=some t2) (hn:(Nat.beq src t1 || Nat.beq src t2 || Nat.beq t1 t2)=false) (ht:(Nat.blt t1 N&&Nat.blt t2 N)=true) (hu:P.underlying ty=some (.slice e))
    (hk:∀ b,(b=true→xs=[])→Cn w0 φ0 N ⟨[(src,.fz τ xs),(t2,.bool b)],[]⟩ Q .normal):Run P w0 φ0 N (.region rid ops false) ⟨[(src,.fz τ xs)],[]⟩ Q:=by
  simp only [Bool.or_eq_false_iff] at hn
  have n1:=Nat.ne_of_beq_eq_false hn.1.1
  have n2:=Nat.ne_of_beq_eq_false hn.1.2
  simp only [Bool.and_eq_true,Nat.blt_eq] at ht
  intro a w hs
  obtain ⟨⟨η,h1,h2,h3⟩,h4,h5⟩:=hs
  obtain ⟨v,e1,e2⟩:=h2 src _ (List.mem_cons_self ..)
  have hv0:=e2
  cases e2 with
  | fz hf =>
    obtain ⟨A,c,rfl,hc,hA,_⟩:=hf
    have ea:a.eval (.tmp src)=.slice A xs.length c:=by
      show a.tmps.getD src undef=_
      rw [Array.getD_eq_getD_getElem?,e1];rfl
    refine wp_region_list ?_
    rw [hops]
    refine wpList_plain g1 fun K1 hK1=>?_
    unfold Oper.wp execOp
    simp only [p1,ea,Sem.run_pure,Oper.upon]
    refine hK1 _ _ (wpList_plain g2 fun K2 hK2=>?_)
    generalize hb:a.put o1.dst (.slice A xs.length c)=a1
    have eb:a1.eval (.tmp t1)=.slice A xs.length c:=by
      show a1.tmps.getD t1 undef=_
      rw [Array.getD_eq_getD_getElem?,← hb,q21u d1 (by omega)];rfl
    have ec:a1.eval (.const (.slice none 0 0))=.slice none 0 0:=rfl
    have hq:(eqGuard .eql ty (.tmp t1) (.const (.slice none 0 0)) (.slice A xs.length c) (.slice none 0 0)).run P w=.ok () w:=by simp [eqGuard]
    have hr:=Lib.run_eql_slice_nil (P:=P) w ty e A xs.length c 0 0 hu
    unfold Oper.wp execOp
    simp only [p2,eb,ec,Sem.run_bind,hq,Result.andThen_ok,hr,Sem.run_pure,Oper.upon]
    refine hK2 _ _ (hk A.isNone (fun hAn=>?_) _ w ⟨⟨η,h1,fun n l hl=>?_,h3⟩,by rw [q21v,← hb,q21v];exact h4,by rw [q21w,← hb,q21w];exact h5⟩)
    · cases A with
      | none=>have:=hA rfl;exact List.eq_nil_of_length_eq_zero (by omega)
      | some x=>cases hAn
    · rcases List.mem_cons.1 hl with hl | hl
      · injection hl with e3 e4
        rw [e3,e4]
        exact ⟨_,q21t d2 n2 (by rw [← hb];exact q21t d1 n1 e1),hv0⟩
      · rcases List.mem_cons.1 hl with hl | hl
        · injection hl with e3 e4
          rw [e3,e4]
          exact ⟨_,q21u d2 (by rw [← hb,q21v];omega),.bool _⟩
        · cases hl
end
end Go.Tx
