/- Walks of the references; the orders agree; examples. -/
import Derived.Shelf.SlSortCmp.NoneTotal
import Derived.Test.YtfjjdnaggblaaaaGreatGd
set_option linter.unusedSimpArgs false
set_option linter.unusedVariables false
namespace Go.Pel
open Go Go.RowKit
theorem qxo {w:World} {b o n c:Nat} {l:List Int} (h:Sl w 1 (some ⟨b,o,none⟩) n c (vi l)) {k:Nat} {x:Int} (hx:l[k]?=some x):w.cell? ⟨b,o+k,none⟩=some (.int .i64 x):=by
 have hl:=h.2.1
 have hk:=(List.getElem?_eq_some_iff.1 hx).1
 obtain⟨b',o',hA,_,hc⟩:=h.2.2 (by simp[vi]at hl;omega)
 injection hA with hA;injection hA with h1 h2
 subst h1 h2
 exact hc k _ (by simp[vi,hx])
end Go.Pel
namespace Go.Proofs.YtfjjdnaggblaaaaGreat
open Go.RowKit Go.Pel
end Go.Proofs.YtfjjdnaggblaaaaGreat
namespace Go.Pel
open Go Go.RowKit
end Go.Pel
namespace Go.Proofs.YtfjjdnaggblaaaaGreat
open Go.RowKit Go.Pel
set_option maxRecDepth 10000 in
set_option maxHeartbeats 2000000 in
theorem qxt (A B:Option Addr) (c d:Nat) (l m:List Int) (w:World) (hs:Sl w 1 A l.length c (vi l)) (ht:Sl w 1 B m.length d (vi m)) (hl:l.length<=1000000) (hm:m.length<=1000000) :
  Calls Tryz.prog 47 #[.slice A l.length c,.slice B m.length d] w fun e w'=>e=.returned (.bool (decide (l=m)))/\∃ x,w'=ext w x:=by
 by_cases hn:l.length=m.length
 ·have z0:((l.length:Int) != (m.length:Int))=false:=by rw[bne_eq_false_iff_eq];omega
  have HN:=Lib.hid hn
  have hle1:l.length<=m.length:=by omega
  have hle2:m.length<=l.length:=by omega
  clear hn
  go_enter Tryz.func47,Tryz.ntmps47
  go_wp2
  go_loopw [5] (fun i wr=>∃ (k:Nat),k<=l.length/\i=.int .i64 k/\l.take k=m.take k/\∃ y,wr=ext w y) (fun i _=>l.length-(intOf i).toNat)
  case atStart=>exact⟨0,Nat.zero_le _,rfl,rfl,ext_of (Bel.refl _)⟩
  case round =>
   obtain⟨k,hk,rfl,hgo,y,rfl⟩:=hrel
   have HG:=Lib.hid hgo;clear hgo
   by_cases hlt:k<l.length
   ·obtain⟨x,hx⟩:∃ x,l[k]?=some x:=⟨_,List.getElem?_eq_getElem hlt⟩
    obtain⟨x',hx'⟩:∃ x,m[k]?=some x:=⟨_,List.getElem?_eq_getElem (by omega)⟩
    obtain⟨b,o,rfl,hb⟩:=hs.at_ (by omega)
    obtain⟨b2,o2,rfl,hb2⟩:=ht.at_ (by omega)
    have r0:=qxo hs hx
    have q0:=qxo ht hx'
    have HX:=Lib.hid hx
    have HX':=Lib.hid hx'
    have hlt1:(k:Int)<(l.length:Int):=by omega
    have hlt2:(k:Int)<(m.length:Int):=by omega
    clear hx hx'
    have HE:=Lib.hid (show l.take (k+1)=l.take k ++ [x] by rw[List.take_add_one,HX.out];rfl)
    have HE':=Lib.hid (show m.take (k+1)=m.take k ++ [x'] by rw[List.take_add_one,HX'.out];rfl)
    by_cases hxy:x=x'
    ·subst hxy
     have heq:(x != x)=false:=by simp
     go_wp2
     ((first | refine RegC.wp_region_ext1 (by kernel_rfl) (by kernel_rfl) ?_ | refine RegC.wp_region_ext0 (by kernel_rfl) (by kernel_rfl) ?_);(repeat (any_goals (first | go_big_quiet_step (fail) | (refine RegC.wpQuiet_split rfl rfl (fun hb=>?_) (fun hb=>?_)<;>simp only[hb]))));all_goals (refine wpQuiet_nil ?_;rintro _ ⟨nq,rfl⟩))
     go_wp2
     go_roundw
     case rel =>
      refine⟨k+1,by omega,by go_num,?_,ext_of (by (try simp only[qdi]);repeat (first | exact Bel.refl _ | assumption | refine qdr ?_ _ | refine qds ?_ _ | refine Bel.ext ?_ _ | refine Bel.alloc ?_ _ | refine Bel.drewN ?_ _))⟩
      rw[HE.out,HE'.out,HG.out]
     case measure=>(first | (simp[intOf];done) | (simp[intOf];omega))
    ·have heq:(x != x')=true:=by simpa using hxy
     have z1:decide (l=m)=false:=by rw[decide_eq_false_iff_not];intro h;apply hxy;have h1:=HX.out;rw[h,HX'.out]at h1;exact (Option.some.inj h1).symm
     have Z1:=Lib.hid z1
     clear z1 hxy
     go_wp2
     ((first | refine RegC.wp_region_ext1 (by kernel_rfl) (by kernel_rfl) ?_ | refine RegC.wp_region_ext0 (by kernel_rfl) (by kernel_rfl) ?_);(repeat (any_goals (first | go_big_quiet_step (fail) | (refine RegC.wpQuiet_split rfl rfl (fun hb=>?_) (fun hb=>?_)<;>simp only[hb]))));all_goals (refine wpQuiet_nil ?_;rintro _ ⟨nq,rfl⟩))
     go_wp2
     (go_ret;exact⟨qpw (by exact Z1.out.symm),ext_of (by (try simp only[qdi]);repeat (first | exact Bel.refl _ | assumption | refine qdr ?_ _ | refine qds ?_ _ | refine Bel.ext ?_ _ | refine Bel.alloc ?_ _ | refine Bel.drewN ?_ _))⟩)
   ·have z1:decide (l=m)=true:=by
     rw[decide_eq_true_eq]
     have h:=HG.out
     obtain rfl:k=l.length:=by omega
     rw[List.take_length]at h
     rw[h,HN.out,List.take_length]
    have Z1:=Lib.hid z1
    clear z1
    go_wp2
    (go_ret;exact⟨qpw (by exact Z1.out.symm),ext_of (by (try simp only[qdi]);repeat (first | exact Bel.refl _ | assumption | refine qdr ?_ _ | refine qds ?_ _ | refine Bel.ext ?_ _ | refine Bel.alloc ?_ _ | refine Bel.drewN ?_ _))⟩)
 ·have z0:((l.length:Int) != (m.length:Int))=true:=by rw[bne_iff_ne];omega
  have Z1:=Lib.hid (show decide (l=m)=false by rw[decide_eq_false_iff_not];intro h;exact hn (by rw[h]))
  clear hn
  go_enter Tryz.func47,Tryz.ntmps47
  go_wp2
  (go_ret;exact⟨qpw (by exact Z1.out.symm),ext_of (by (try simp only[qdi]);repeat (first | exact Bel.refl _ | assumption | refine qdr ?_ _ | refine qds ?_ _ | refine Bel.ext ?_ _ | refine Bel.alloc ?_ _ | refine Bel.drewN ?_ _))⟩)
end Go.Proofs.YtfjjdnaggblaaaaGreat
namespace Go.Pel
open Go Go.RowKit
end Go.Pel
namespace Go.Proofs.YtfjjdnaggblaaaaGreat
open Go.RowKit Go.Pel
end Go.Proofs.YtfjjdnaggblaaaaGreat
namespace Go.Tx
open Go Go.Sort Go.RowKit Go.Proofs Go.Shelf
theorem qy0 {α:Type} [Inhabited α] (enc:α->List Value) (k:Nat) (hk:∀ x,(enc x).length=k):∀ (l:List α),(flatK enc k l.toArray).toList=l.flatMap enc:=by
 intro l
 have key:∀ (l:List α) (t:Nat),t<l.length*k->(l.flatMap enc)[t]?=some ((enc l[t/k]!)[t%k]!):=by
  intro l
  induction l with
  | nil=>intro t ht;simp at ht
  | cons a r ih =>
   intro t ht
   have k0:0<k:=by
    rcases Nat.eq_zero_or_pos k with h | h
    ·subst h;simp at ht
    ·exact h
   rw[List.flatMap_cons]
   by_cases hlt:t<k
   ·rw[List.getElem?_append_left (by rw[hk];exact hlt),Nat.div_eq_of_lt hlt,Nat.mod_eq_of_lt hlt]
    have:t<(enc a).length:=by rw[hk];exact hlt
    simp[this]
   ·rw[List.getElem?_append_right (by rw[hk];omega),hk]
    have h2:t-k<r.length*k:=by
     rw[List.length_cons,Nat.add_mul,Nat.one_mul]at ht;omega
    rw[ih (t-k) h2]
    have e1:t/k=(t-k)/k+1:=by
     have:=Nat.div_eq_sub_div k0 (by omega:k<=t)
     omega
    have e2:t%k=(t-k)%k:=Nat.mod_eq_sub_mod (by omega)
    rw[e1,e2]
    simp
 have hlen:(l.flatMap enc).length=l.length*k:=by
  induction l with
  | nil=>simp
  | cons a r ih=>rw[List.flatMap_cons,List.length_append,ih,hk,List.length_cons,Nat.add_mul,Nat.one_mul];omega
 apply List.ext_getElem?
 intro t
 by_cases ht:t<l.length*k
 ·rw[key l t ht]
  simp[flatK,ht]
 ·rw[List.getElem?_eq_none (by simp[flatK];omega),List.getElem?_eq_none (by rw[hlen];omega)]
def eqR:(τ:Row)->den τ->den τ->Bool
 | .nil,_,_=>true
 | .int _ r,x,y=>x.1==y.1&&eqR r x.2 y.2
 | .bool r,x,y=>x.1==y.1&&eqR r x.2 y.2
 | .sl _ _,_,_=>false
theorem qy1:∀ (τ:Row) (x y:den τ),eqR τ x y=true->x=y
 | .nil,_,_,_=>rfl
 | .int k r, x, y, h => by
  rw[eqR,Bool.and_eq_true,beq_iff_eq]at h
  exact Prod.ext h.1 (qy1 r x.2 y.2 h.2)
 | .bool r, x, y, h => by
  rw[eqR,Bool.and_eq_true,beq_iff_eq]at h
  exact Prod.ext h.1 (qy1 r x.2 y.2 h.2)
 | .sl _ _,_,_,h=>by cases h
section
variable {τ:Row} (F:den τ×den τ×Unit->Option Int)
def cmpV (x y:den τ):Int:=match F (x,y,()) with | some n=>n | none=>0
def ltV (x y:den τ):Bool:=decide (cmpV F x y<0)
def qy2 (xs:List (den τ)):Bool :=
 xs.all (fun x=>xs.all fun y=>(F (x,y,())).isSome)&&xs.all (fun x=>!(ltV F x x)) &&
 xs.all (fun x=>xs.all fun y=>!(ltV F x y) || xs.all fun z=>!(ltV F y z) || ltV F x z) &&
 xs.all (fun x=>xs.all fun y=>ltV F x y || xs.all fun z=>ltV F y z || !(ltV F x z)) &&
 xs.all (fun x=>xs.all fun y=>ltV F x y || ltV F y x || eqR τ x y)
end
def insL {α:Type} (lt:α->α->Bool) (x:α):List α->List α
 | []=>[x]
 | y::ys=>bif lt x y then x::y::ys else y::insL lt x ys
def qy3 {α:Type} (lt:α->α->Bool):List α->List α
 | []=>[]
 | x::xs=>insL lt x (qy3 lt xs)
def qy4 {τ:Row} (F:den τ×den τ×Unit->Option Int) (xs:List (den τ)):Option (List (den τ)):=bif Nat.ble xs.length 1000000&&qy2 F xs then some (qy3 (ltV F) xs) else none
theorem qy5 {α:Type} (lt:α->α->Bool) (x:α):∀ l:List α,(insL lt x l).Perm (x::l)
 | []=>.refl _
 | y::ys => by
  rw[insL]
  cases lt x y with
  | true=>exact .refl _
  | false=>exact ((qy5 lt x ys).cons y).trans (.swap x y ys)
theorem qy6 {α:Type} (lt:α->α->Bool):∀ l:List α,(qy3 lt l).Perm l
 | []=>.refl _
 | x::xs=>by rw[qy3];exact (qy5 lt x _).trans ((qy6 lt xs).cons x)
theorem qy7 {α:Type} {lt:α->α->Bool} {S:α->Prop} (has:∀ a b,S a->S b->lt a b=true->lt b a=false) (hn:∀ a b c,S a->S b->S c->lt a b=false->lt b c=false->lt a c=false) {x:α} (hx:S x):∀ l:List α,(∀ a∈l,S a)->l.Pairwise (fun a b=>lt b a=false)->(insL lt x l).Pairwise (fun a b=>lt b a=false)
 | [],_,_=>List.pairwise_singleton _ _
 | y::ys, hS, hp => by
  obtain⟨h1,h2⟩:=List.pairwise_cons.1 hp
  have hy:=hS y (List.mem_cons_self ..)
  rw[insL]
  cases hl:lt x y with
  | true =>
   refine List.pairwise_cons.2 ⟨fun b hb=>?_,hp⟩
   have hyx:=has x y hx hy hl
   rcases List.mem_cons.1 hb with rfl | hb
   ·exact hyx
   ·exact hn b y x (hS b (List.mem_cons_of_mem _ hb)) hy hx (h1 b hb) hyx
  | false =>
   refine List.pairwise_cons.2 ⟨fun b hb=>?_,qy7 has hn hx ys (fun a ha=>hS a (List.mem_cons_of_mem _ ha)) h2⟩
   rcases List.mem_cons.1 ((qy5 lt x ys).mem_iff.1 hb) with rfl | hb
   ·exact hl
   ·exact h1 b hb
theorem qy8 {α:Type} {lt:α->α->Bool} {S:α->Prop} (has:∀ a b,S a->S b->lt a b=true->lt b a=false) (hn:∀ a b c,S a->S b->S c->lt a b=false->lt b c=false->lt a c=false):∀ l:List α,(∀ a∈l,S a)->(qy3 lt l).Pairwise (fun a b=>lt b a=false)
 | [],_=>.nil
 | x::xs, hS => by
  rw[qy3]
  exact qy7 has hn (hS x (List.mem_cons_self ..)) _ (fun a ha=>hS a (List.mem_cons_of_mem _ ((qy6 lt xs).mem_iff.1 ha))) (qy8 has hn xs fun a ha=>hS a (List.mem_cons_of_mem _ ha))
theorem qya {η:Emb}:∀ (τ:Row) (x:den τ),qdu τ=true->VRs η (split τ x) (qnm τ x)
 | .nil,_,_=>VRs.nil
 | .int k r,x,hp=>VRs.cons (.int _ _) (qya r x.2 hp)
 | .bool r,x,hp=>VRs.cons (.bool _) (qya r x.2 hp)
 | .sl e r,_,hp=>by cases hp
theorem qyb:∀ (τ:Row) (x:den τ),qdu τ=true->∀ v∈qnm τ x,v.oneCell'=true
 | .nil,_,_,v,hv=>by simp[qnm]at hv
 | .int k r, x, hp, v, hv => by
  rw[qnm]at hv
  rcases List.mem_cons.1 hv with rfl | hv
  ·rfl
  ·exact qyb r x.2 hp v hv
 | .bool r, x, hp, v, hv => by
  rw[qnm]at hv
  rcases List.mem_cons.1 hv with rfl | hv
  ·rfl
  ·exact qyb r x.2 hp v hv
 | .sl e r,_,hp,_,_=>by cases hp
theorem qyc {η:Emb} {τ:Row} (hp:qdu τ=true):∀ xs:List (den τ),VRs η (flat τ xs) (qnn τ xs)
 | []=>VRs.nil
 | x::xs=>by rw[flat,qnn];exact (qya τ x hp).append (qyc hp xs)
theorem qyd {η:Emb} {τ:Row} (hp:qdu τ=true) (xs:List (den τ)) (j:Nat) (c:LV) (hc:(flat τ xs)[j]?=some c) (v:Value) (hv:VR η c v):(qnn τ xs)[j]?=some v:=by
 have hl:=(qyc (η:=η) hp xs).1
 have hj:j<(qnn τ xs).length:=by rw[← hl];exact (List.getElem?_eq_some_iff.1 hc).1
 obtain⟨u,hu⟩:∃ u,(qnn τ xs)[j]?=some u:=⟨_,List.getElem?_eq_getElem hj⟩
 have h2:=(qyc (η:=η) hp xs).2 j c u hc hu
 obtain⟨x,hx⟩:=q93 τ xs (List.mem_of_getElem? hc)
 have:u=v:=by
  have hp2:∀ (σ:Row) (y:den σ),qdu σ=true->∀ d∈split σ y,(∃ k n,d=.int k n) ∨ ∃ b,d=.bool b:=by
   intro σ
   induction σ with
   | nil=>intro y _ d hd;simp[split]at hd
   | int k r ih =>
    intro y hpp d hd
    rw[split]at hd
    rcases List.mem_cons.1 hd with rfl | hd
    ·exact .inl ⟨_,_,rfl⟩
    ·exact ih y.2 hpp d hd
   | bool r ih =>
    intro y hpp d hd
    rw[split]at hd
    rcases List.mem_cons.1 hd with rfl | hd
    ·exact .inr ⟨_,rfl⟩
    ·exact ih y.2 hpp d hd
   | sl e r _ _=>intro y hpp;cases hpp
  rcases hp2 τ x hp c hx with⟨k,n,rfl⟩ | ⟨b,rfl⟩
  ·cases h2;cases hv;rfl
  ·cases h2;cases hv;rfl
 rw[hu,this]
theorem qye {τ:Row}:∀ xs:List (den τ),qnn τ xs=xs.flatMap (qnm τ)
 | []=>rfl
 | x::xs=>by rw[qnn,List.flatMap_cons,qye xs]
theorem qyf {M:Nat} {H:LH} {η:Emb} {w w':World} (h:HR M η H w) {b:Nat} {τ:Row} {xs ys:List (den τ)} (hg:H.get b=some (.rows τ xs)) (hlv:Lv η w' b (.rows τ ys)) (hs:w.heap.size<=w'.heap.size)
 (hother:∀ k,k<w.heap.size->(∀ L,η.loc b=some L->k≠L.block)->w'.heap[k]?=w.heap[k]?) (e1:w'.os=w.os) (e2:w'.tape=w.tape) (e3:w'.output=w.output) (e4:w.drawn<=w'.drawn) :
 Adv M H η w (H.put b (some (.rows τ ys))) η w':=by
 have hget:∀ x ob2,(H.put b (some (.rows τ ys))).get x=some ob2->(x=b/\ob2=.rows τ ys)∨(x≠b/\H.get x=some ob2):=fun x ob2 hx=>by
  rw[LH.get_put]at hx
  split at hx
  ·rename_i he;injection hx with hx;exact .inl ⟨he,hx.symm⟩
  ·rename_i he;exact .inr ⟨he,hx⟩
 have hg0:∀ x ob2,(H.put b (some (.rows τ ys))).get x=some ob2->∃ ob0,H.get x=some ob0:=fun x ob2 hx=>by
  rcases hget x ob2 hx with⟨rfl,_⟩ | ⟨_,hg'⟩
  ·exact⟨_,hg⟩
  ·exact⟨_,hg'⟩
 have hlb:∀ k,LB (H.put b (some (.rows τ ys))) η k->LB H η k:=fun k ⟨x,ob2,L',hx,hL',hk⟩=>let ⟨ob0,hg'⟩:=hg0 _ _ hx;⟨x,ob0,L',hg',hL',hk⟩
 refine⟨Emb.le_refl _,fun _ _=>⟨rfl,rfl⟩,Nat.le_refl _,⟨h.dom,fun x ob2 hx=>let ⟨_,hg'⟩:=hg0 x ob2 hx;h.lt x _ hg',fun x ob2 hx=>?_,fun b1 b2 c1 c2 L1 L2 h1 h2 f1 f2 he=>?_,fun k o2 hk=>?_,fun k hk=>h.sep k (hlb k hk),h.ok⟩,hs,fun k hk hn=>hother k hk fun L hL he=>hn ⟨b,_,L,hg,hL,he.symm⟩,
  fun k hk=>.inl (hlb k hk),fun _ _ hk=>.inl hk,e1,e2,e3,e4⟩
 ·rcases hget x ob2 hx with⟨rfl,rfl⟩ | ⟨hne,hg'⟩
  ·exact hlv
  ·have hl:=h.live x ob2 hg'
   exact hl.move (Emb.le_refl _) rfl hs fun L' hL'=>hother _ (hl.lt hL') fun L hL he=>hne (h.inj _ _ _ _ _ _ hg' hg hL' hL he)
 ·obtain⟨d1,g1⟩:=hg0 _ _ h1
  obtain⟨d2,g2⟩:=hg0 _ _ h2
  exact h.inj _ _ _ _ _ _ g1 g2 f1 f2 he
 ·have hk0:=h.fz k o2 hk
  rw[hother k (Array.getElem?_eq_some_iff.1 hk0).1 fun L hL he=>by
   have:=h.sep L.block ⟨b,_,L,hg,hL,rfl⟩
   rw[← he,hk]at this;cases this]
  exact hk0
section
variable {P:Program} {ρ:Ren}
theorem qyg {τ:Row} {F:den τ×den τ×Unit->Option Int} {xs:List (den τ)} (h:qy2 F xs=true) :
 (∀ x∈xs,∀ y∈xs,F (x,y,())=some (cmpV F x y))/\SWO (ltOf fun (x y:{x:den τ // x∈xs})=>cmpV F x.1 y.1)/\∀ x y:{x:den τ // x∈xs},(ltOf fun (x y:{x:den τ // x∈xs})=>cmpV F x.1 y.1) x y=false->(ltOf fun (x y:{x:den τ // x∈xs})=>cmpV F x.1 y.1) y x=false->x=y:=by
 unfold qy2 at h
 simp only[Bool.and_eq_true,List.all_eq_true]at h
 obtain⟨⟨⟨⟨h1,h2⟩,h3⟩,h4⟩,h5⟩:=h
 have e:∀ x y:{x:den τ // x∈xs},(ltOf fun (x y:{x:den τ // x∈xs})=>cmpV F x.1 y.1) x y=ltV F x.1 y.1:=fun _ _=>rfl
 refine⟨fun x hx y hy=>?_,⟨fun x=>?_,fun x y z a b=>?_,fun x y z a b=>?_⟩,fun x y a b=>?_⟩
 ·have:=h1 x hx y hy
  unfold cmpV
  cases hF:F (x,y,()) with
  | none=>rw[hF]at this;cases this
  | some n=>rfl
 ·have:=h2 x.1 x.2
  rw[e];simpa using this
 ·rw[e]at a b ⊢
  have:=h3 x.1 x.2 y.1 y.2
  rw[a]at this
  simp only[Bool.not_true,Bool.false_or,List.all_eq_true]at this
  have:=this z.1 z.2
  rw[b]at this
  simpa using this
 ·rw[e]at a b ⊢
  have:=h4 x.1 x.2 y.1 y.2
  rw[a]at this
  simp only[Bool.false_or,List.all_eq_true]at this
  have:=this z.1 z.2
  rw[b]at this
  simpa using this
 ·rw[e]at a b
  have:=h5 x.1 x.2 y.1 y.2
  rw[a,b]at this
  simp only[Bool.false_or]at this
  exact Subtype.ext (qy1 τ _ _ this)
theorem qyh {τ:Row} {F:den τ×den τ×Unit->Option Int} {xs:List (den τ)} (h:qy2 F xs=true):(xs.attach.mergeSort fun x y=>!(ltOf fun (x y:{x:den τ // x∈xs})=>cmpV F x.1 y.1) y x).map Subtype.val=qy3 (ltV F) xs:=by
 obtain⟨_,hO,hT⟩:=qyg h
 have e:∀ x y:{x:den τ // x∈xs},(ltOf fun (x y:{x:den τ // x∈xs})=>cmpV F x.1 y.1) x y=ltV F x.1 y.1:=fun _ _=>rfl
 have has:∀ a b,a∈xs->b∈xs->ltV F a b=true->ltV F b a=false:=fun a b ha hb h1=>by
  cases h2:ltV F b a with
  | false=>rfl
  | true =>
   have h3:=hO.trans ⟨a,ha⟩ ⟨b,hb⟩ ⟨a,ha⟩ h1 h2
   rw[hO.irrefl]at h3;cases h3
 have hn:∀ a b c,a∈xs->b∈xs->c∈xs->ltV F a b=false->ltV F b c=false->ltV F a c=false:=fun a b c ha hb hc h1 h2=>hO.ntrans ⟨a,ha⟩ ⟨b,hb⟩ ⟨c,hc⟩ h1 h2
 refine List.Perm.eq_of_pairwise (le:=fun a b=>ltV F b a=false) ?_ ?_ (qy8 (S:=fun a=>a∈xs) has hn xs fun _ h=>h) ?_
 ·intro a b ha hb h1 h2
  have ha':a∈xs:=by
   obtain⟨c,_,rfl⟩:=List.mem_map.1 ha
   exact c.2
  have hb':b∈xs:=(qy6 (ltV F) xs).mem_iff.1 hb
  exact congrArg Subtype.val (hT ⟨a,ha'⟩ ⟨b,hb'⟩ h2 h1)
 ·have hp:=List.pairwise_mergeSort (le:=fun x y=>!(ltOf fun (x y:{x:den τ // x∈xs})=>cmpV F x.1 y.1) y x) (fun x y z h1 h2=>by
   simp only[Bool.not_eq_true']at h1 h2 ⊢
   exact hO.ntrans z y x h2 h1) (fun x y=>by
   simp only[Bool.or_eq_true,Bool.not_eq_true']
   cases h1:(ltOf fun (x y:{x:den τ // x∈xs})=>cmpV F x.1 y.1) y x with
   | false=>exact .inl rfl
   | true=>exact .inr (has _ _ y.2 x.2 h1)) xs.attach
  rw[List.pairwise_map]
  exact hp.imp fun h=>by simpa [e] using h
 ·have h1:=((List.mergeSort_perm xs.attach fun x y=>!(ltOf fun (x y:{x:den τ // x∈xs})=>cmpV F x.1 y.1) y x).map Subtype.val)
  rw[List.attach_map_subtype_val]at h1
  exact h1.trans (qy6 (ltV F) xs).symm
theorem qyi {w w':World} (h:Bel w w'):∃ q os',w'=grow (w.drewN q) os':=by
 obtain⟨x,rfl⟩:=ext_of h
 exact⟨x.drawn,x.objs,by unfold ext grow World.drewN;rfl⟩
theorem qyj (w:World) (m blk off:Nat) (Fv:Array Value) (os:Array Obj):w.heap.size<=(grow (putRow id (Sort.ahead w m) blk off Fv) os).heap.size:=by
 simp[grow,putRow,mapBlock,Sort.ahead]
theorem qyk (w:World) (m blk off:Nat) (Fv:Array Value) (os:Array Obj) (k:Nat) (hk:k<w.heap.size) (hne:k≠blk):(grow (putRow id (Sort.ahead w m) blk off Fv) os).heap[k]?=w.heap[k]?:=by
 simp only[grow]
 rw[Array.getElem?_append_left (by simpa [putRow,mapBlock,Sort.ahead] using hk)]
 simp[putRow,mapBlock,Sort.ahead,Array.getElem?_modify,Ne.symm hne]
theorem qyl (L:SlLaysF0.n6 P ρ) {τ:Row} (hp:qdu τ=true) (aE:∀ w,(isAgg (ρ.t 24)).run P w=.ok true w) (zE:∀ w,(Go.sizeOf (ρ.t 24)).run P w=.ok τ.size w) {g:FuncId} {F:den τ×den τ×Unit->Option Int}
    (hS:COK P ⟨g,[.row τ true,.row τ true],Int,F,fun r=>(.int .i64 r,[])⟩) {H:LH} {n:Nat} {xs ys:List (den τ)} (hg:H.get n=some (.rows τ xs)) (hy:qy4 F xs=some ys) :
    q5y P (ρ.f 6) [.rs n,.fn g []] H (.tup [],H.put n (some (.rows τ ys))):=by
  unfold qy4 at hy
  obtain⟨hb,rfl⟩:=qev (A:=some (qy3 (ltV F) xs)) hy |>.imp id fun h=>Option.some.inj h
  rw[Bool.and_eq_true]at hb
  have hsz:=Nat.le_of_ble_eq_true hb.1
  obtain⟨hc,hO,hT⟩:=qyg hb.2
  refine⟨Logged.put _ hg _,fun M η w vs h hM hv=>?_⟩
  obtain⟨v1,vs,rfl,q1,hv⟩:=hv.uncons
  obtain⟨v2,vs,rfl,q2,hv⟩:=hv.uncons
  obtain rfl:vs=[]:=by have:=hv.1;simpa using this.symm
  cases q1 with
  | rs hh1 =>
  have hv2:v2=.func (.func g) #[] #[]:=by
    cases q2 with
    | fn hl _=>rw[List.eq_nil_of_length_eq_zero hl.symm]
  subst hv2
  have hlen:∀ l:List (den τ),(qy3 (ltV F) l).length=l.length:=fun l=>(qy6 (ltV F) l).length_eq
  cases h.live _ _ hg with
  | none hL hh =>
    rename_i A
    rw[hh1]at hh;injection hh with hh;subst hh
    refine Calls.mono (AnyF.slices_SortFunc_none L A 0 (.func (.func g) #[] #[]) w) ?_
    rintro e w' ⟨rfl,rfl⟩
    refine⟨_,η,rfl,q6u,qyf h hg ?_ (Nat.le_refl _) (fun _ _ _=>rfl) rfl rfl rfl (Nat.le_refl _)⟩
    have e0:qy3 (ltV F) ([]:List (den τ))=[]:=rfl
    rw[e0]
    exact .none hL hh1
  | rows hL ha hh hcap hr =>
    rename_i L0 c
    rw[hh1]at hh;injection hh with hh;subst hh
    by_cases h0:xs=[]
    · subst h0
      refine Calls.mono (AnyF.slices_SortFunc_none L (some ⟨L0.block,L0.base,none⟩) c (.func (.func g) #[] #[]) w) ?_
      rintro e w' ⟨rfl,rfl⟩
      refine⟨_,η,rfl,q6u,qyf h hg ?_ (Nat.le_refl _) (fun _ _ _=>rfl) rfl rfl rfl (Nat.le_refl _)⟩
      have e0:qy3 (ltV F) ([]:List (den τ))=[]:=rfl
      rw[e0]
      exact .rows hL ha hh1 hcap hr
    · haveI:Inhabited {x:den τ // x∈xs}:=⟨⟨xs.head h0,List.head_mem h0⟩⟩
      have eg:∀ args w,(callFunc g args).run P w=.ok (.enter g args) w:=by
        obtain⟨fn,bd,b1,b2,b3⟩:=hS.body
        intro args w
        have b4:¬ fn.body=none:=by rw[b2];simp
        have b1':P.funcs[g]?=some fn:=b1
        simp[callFunc,b1',b3,b4]
      have hk:∀ x:{x:den τ // x∈xs},(qnm τ x.1).length=τ.size:=fun x=>qnq τ hp x.1
      have hflat:∀ m:List {x:den τ // x∈xs},(flatK (fun x:{x:den τ // x∈xs}=>qnm τ x.1) τ.size m.toArray).toList=qnn τ (m.map Subtype.val):=fun m=>by
        rw[qy0 _ _ hk,qye,List.flatMap_map]
      have hcmp:CmpLays P g #[] (fun x:{x:den τ // x∈xs}=>qnm τ x.1) τ.size (fun x y=>cmpV F x.1 y.1) L0.block L0.base xs.attach.toArray.size w:=by
        intro m os dk _ x y
        have hF:=hc x.1 x.2 y.1 y.2
        have h2:=hS.ok (x.1,y.1,()) (cmpV F x.1 y.1) hF (sortWorldK (fun x:{x:den τ // x∈xs}=>qnm τ x.1) τ.size w L0.block L0.base m dk os) (fun _=>none) [.agg (qnm τ x.1).toArray,.agg (qnm τ y.1).toArray] (fun k ob hk=>by cases hk)
          (VRs.cons (VR.aggL (qya τ x.1 hp)) (VRs.cons (VR.aggL (qya τ y.1 hp)) VRs.nil))
        refine Calls.mono h2 ?_
        rintro e w' ⟨v',η',rfl,hvr,_,hfr⟩
        have hv':v'=.int .i64 (cmpV F x.1 y.1):=by
          have hvr:VR η' (.int .i64 (cmpV F x.1 y.1)) v':=hvr
          cases hvr;rfl
        rw[hv']
        exact⟨rfl,qyi ⟨⟨hfr.os,hfr.tape,hfr.output,hfr.size,fun k hk=>hfr.same0 k hk⟩,hfr.drawn⟩⟩
      have hfl:flatK (fun x:{x:den τ // x∈xs}=>qnm τ x.1) τ.size xs.attach.toArray=(qnn τ xs).toArray:=by
        apply Array.toList_inj.1
        rw[hflat,List.attach_map_subtype_val]
      have hfl2:∀ l:List (den τ),(flat τ l).length=(qnn τ l).length:=fun l=>(qyc (η:=η) hp l).1
      have hH:HoldsK (fun x:{x:den τ // x∈xs}=>qnm τ x.1) τ.size w L0.block L0.base xs.attach.toArray:=by
        unfold HoldsK
        rw[hfl]
        intro j hj
        have hj':j<(qnn τ xs).length:=by simpa using hj
        obtain⟨cl,hcl⟩:∃ cl,(flat τ xs)[j]?=some cl:=⟨_,List.getElem?_eq_getElem (by rw[hfl2];exact hj')⟩
        obtain⟨v,g1,g2⟩:=ha.cell j cl hcl
        have g3:=qyd hp xs j cl hcl v g2
        have hf:=ha.fits
        refine⟨?_,(ha.there (L0.base+j) (by omega) (by have:=hfl2 xs;omega)).2⟩
        rw[g1]
        congr 1
        rw[getElem!_pos _ _ (by simpa using hj')]
        have:=(List.getElem?_eq_some_iff.1 g3).2
        simp[this]
      have hcon:=AnyQ.slices_SortFunc_total L τ.size aE zE (fun x:{x:den τ // x∈xs}=>qnm τ x.1) hk (fun x v hv=>qyb τ x.1 hp v hv) (fun x y=>cmpV F x.1 y.1) hO g #[] L0.block L0.base c xs.attach.toArray w eg hcmp hH ha.lt (by simp;omega) hT
      have hats:xs.attach.toArray.size=xs.length:=by simp
      rw[hats]at hcon
      refine Calls.mono hcon ?_
      rintro e w' ⟨rfl,m,os,rfl⟩
      have hF:flatK (fun x:{x:den τ // x∈xs}=>qnm τ x.1) τ.size (xs.attach.toArray.toList.mergeSort fun x y=>!(ltOf fun (x y:{x:den τ // x∈xs})=>cmpV F x.1 y.1) y x).toArray=(qnn τ (qy3 (ltV F) xs)).toArray:=by
        apply Array.toList_inj.1
        rw[hflat]
        congr 1
        have:=qyh hb.2
        simpa using this
      unfold sortWorldK putRowK
      rw[hF]
      have hvl:(qnn τ (qy3 (ltV F) xs)).length=(qnn τ xs).length:=by rw[qnr hp,qnr hp,hlen]
      have hyl:=hlen xs
      unfold HoldsK at hH
      rw[hfl]at hH
      generalize qy3 (ltV F) xs=ys at hvl hyl ⊢
      have hfit:=ha.fits
      have hfx:=hfl2 xs
      have hfy:=hfl2 ys
      obtain⟨W1,hW1⟩:∃ W1,putRow id (Sort.ahead w m) L0.block L0.base (qnn τ ys).toArray=W1:=⟨_,rfl⟩
      have hsz1:W1.heap.size=w.heap.size:=by rw[← hW1];simp[putRow,mapBlock,Sort.ahead]
      have hblk:(grow W1 os).heap[L0.block]?=W1.heap[L0.block]?:=by
        simp only[grow]
        rw[Array.getElem?_append_left (by rw[hsz1];exact ha.lt)]
      have hfr:∀ j,W1.frozen? ⟨L0.block,j,none⟩=w.frozen? ⟨L0.block,j,none⟩:=fun j=>by rw[← hW1,frozen?_putRow];rfl
      have hin:∀ j,j<(qnn τ ys).length->W1.cell? ⟨L0.block,L0.base+j,none⟩=some ((qnn τ ys).toArray[j]!):=fun j hj=>by
        rw[← hW1]
        exact cell?_putRow id (Sort.ahead w m) L0.block L0.base (qnn τ xs).toArray (qnn τ ys).toArray hH (by simp[hvl]) j (by simpa using hj)
      have hout:∀ j,L0.base+(qnn τ ys).length<=j->W1.cell? ⟨L0.block,j,none⟩=w.cell? ⟨L0.block,j,none⟩:=fun j hj=>by
        rw[← hW1,cell?_putRow_other id (Sort.ahead w m) L0.block L0.base (qnn τ ys).toArray ⟨L0.block,j,none⟩ (.inr (.inr (by simpa using hj)))];rfl
      have hat2:At η (grow W1 os) (flat τ ys) L0:=by
        refine⟨?_,by omega,fun j h1 h2=>⟨?_,?_⟩,fun j c hcj=>?_⟩
        · have:=ha.lt
          simp only[grow,Array.size_append];omega
        · rw[qy hblk]
          by_cases hj:j<L0.base+(qnn τ ys).length
          · have:=hin (j-L0.base) (by omega)
            rw[show L0.base+(j-L0.base)=j by omega]at this
            rw[this];rfl
          · rw[hout j (by omega)];exact (ha.there j h1 h2).1
        · rw[qz hblk,hfr];exact (ha.there j h1 h2).2
        · have hj:j<(qnn τ ys).length:=by rw[← hfy];exact (List.getElem?_eq_some_iff.1 hcj).1
          refine⟨(qnn τ ys)[j],?_,(qyc hp ys).2 j c _ hcj (List.getElem?_eq_getElem hj)⟩
          rw[qy hblk,hin j hj]
          congr 1
          rw[getElem!_pos _ _ (by simpa using hj)]
          simp
      subst hW1
      refine⟨_,η,rfl,q6u,qyf h hg (.rows hL hat2 (by rw[hyl];exact hh1) (by rw[hyl];exact hcap) hr) ?_ (fun k hk hne=>?_) ?_ ?_ ?_ ?_⟩
      · exact qyj ..
      · exact qyk _ _ _ _ _ _ k hk (hne L0 hL)
      · rfl
      · rfl
      · rfl
      · simp[grow,putRow,mapBlock,Sort.ahead]
def orcS (f g:FuncId) (τ:Row) (F:den τ×den τ×Unit->Option Int) (C:Orc):Orc:=fun h args H =>
 bif Nat.beq h f then (match args with
  | [.rs n, .fn g' []] => bif Nat.beq g' g then (match H.get n with
   | some (.rows σ xs)=>if e:σ=τ then some ⟨List (den τ),qy4 F (e▸xs),fun r=>(.tup [],H.put n (some (.rows τ r)))⟩ else none
   | _=>none) else none
  | _=>none) else C h args H
theorem qym (L:SlLaysF0.n6 P ρ) {τ:Row} (hp:qdu τ=true) (aE:∀ w,(isAgg (ρ.t 24)).run P w=.ok true w) (zE:∀ w,(Go.sizeOf (ρ.t 24)).run P w=.ok τ.size w) {g:FuncId} {F:den τ×den τ×Unit->Option Int}
 (hS : COK P ⟨g, [.row τ true, .row τ true], Int, F, fun r => (.int .i64 r, [])⟩) (hbody : ∃ fn c, P.funcs[ρ.f 6]? = some fn ∧ fn.body = some c ∧ ¬ fn.name = "runtime.NumGoroutine") {C : Orc} (hC : OrcOK P C) : OrcOK P (orcS (ρ.f 6) g τ F C) := by
 have key:∀ h args H p,orcS (ρ.f 6) g τ F C h args H=some p->(C h args H=some p)∨(h=ρ.f 6/\∃ n xs,args=[.rs n,.fn g []]/\H.get n=some (.rows τ xs)/\p=⟨List (den τ),qy4 F xs,fun r=>(.tup [],H.put n (some (.rows τ r)))⟩):=by
  intro h args H p hp
  unfold orcS at hp
  rw[Bool.cond_eq_ite]at hp
  split at hp
  ·rename_i he
   have he:=Nat.eq_of_beq_eq_true he
   split at hp
   ·rename_i n g'
    rw[Bool.cond_eq_ite]at hp
    split at hp
    ·rename_i hg
     have hg:=Nat.eq_of_beq_eq_true hg
     subst hg
     split at hp
     ·rename_i σ xs hn
      split at hp
      ·rename_i e
       subst e
       injection hp with hp
       exact .inr ⟨he,n,xs,rfl,hn,hp.symm⟩
      ·cases hp
     ·cases hp
    ·cases hp
   ·cases hp
  ·exact .inl hp
 refine⟨fun h args H p x hp' hx=>?_⟩
 rcases key h args H p hp' with h1 | ⟨rfl,n,xs,rfl,hn,rfl⟩
 ·exact hC.call h args H p x h1 hx
 ·exact .inl ⟨qyl L hp aE zE hS hn hx,hbody⟩
end
end Go.Tx
namespace Go.Proofs.YtfjjdnaggblaaaaGreat
open Go Go.Tx Go.RowKit Go.Pel
theorem qyn {η:Emb} {a b c d:Int} {v:Value} (hv:VR η (.agg [.int .i64 a,.int .i64 b,.int .i64 c,.int .i64 d]) v):v=.agg #[.int .i64 a,.int .i64 b,.int .i64 c,.int .i64 d]:=by
 cases hv with
 | agg hl hh =>
  obtain⟨u1,vs,rfl,h1,h⟩:=VRs.uncons ⟨hl,hh⟩
  obtain⟨u2,vs,rfl,h2,h⟩:=VRs.uncons h
  obtain⟨u3,u4,rfl,h3,h4⟩:=vrs2 h
  cases h1;cases h2;cases h3;cases h4;rfl
def sumB (a b c d:Int):Bool:=decide ((-9223372036854775808<=a/\a<9223372036854775808)/\(-9223372036854775808<=b/\b<9223372036854775808)/\(-9223372036854775808<=c/\c<9223372036854775808)/\(-9223372036854775808<=d/\d<9223372036854775808)/\(-38685626227668133590597632<=a*b/\a*b<=38685626227668133590597632)/\(-38685626227668133590597632<=c*d/\c*d<=38685626227668133590597632))
theorem qyo {a b c d:Int} (h:sumB a b c d=true) (w:World):Calls Tryz.prog 136 #[.agg #[.int .i64 a,.int .i64 b,.int .i64 c,.int .i64 d]] w fun e w'=>e=.returned (.agg #[.int .i64 ((a*b+c*d)/18446744073709551616),.int .u64 ((a*b+c*d)%18446744073709551616)])/\∃ x,w'=ext w x:=by
 obtain⟨h1,h2,h3,h4,h5,h6⟩:=of_decide_eq_true h
 exact qr4 a b c d w h1 h2 h3 h4 h5 h6
end Go.Proofs.YtfjjdnaggblaaaaGreat
namespace Go.Pel
open Go Go.Tx
theorem qyp {l:List Pt} (h:incB l=true):(l.map Pt.id).Nodup:=by
 unfold List.Nodup
 rw[List.pairwise_iff_getElem]
 intro i j hi hj hij
 simp only[List.length_map]at hi hj
 have:=qmp h hij (List.getElem?_eq_getElem hi) (List.getElem?_eq_getElem hj)
 simp;omega
theorem qyq (p q:Pt) (n d:Int):leads p q n d=true↔(q.a*d+q.b*n<p.a*d+p.b*n)∨(q.a*d+q.b*n=p.a*d+p.b*n/\(q.b<p.b∨(q.b=p.b/\p.id<q.id))):=by
 have e:farD p q n d=(p.a*d+p.b*n)-(q.a*d+q.b*n):=by unfold farD;rw[Int.sub_mul,Int.sub_mul];omega
 unfold leads
 rw[e]
 generalize p.a*d+p.b*n=P
 generalize q.a*d+q.b*n=Q
 repeat' split
 all_goals simp only[decide_eq_true_eq]
 all_goals omega
def ordI (n d:Int) (l:List Pt):List Pt:=qy3 (fun p q=>leads p q n d) l
def qyr (l:List Pt) (n d:Int):List Int×Int:=if qmq l≠0 then ([],qmq l) else if qjo n d≠0 then ([],qjo n d) else ((ordI n d l).map Pt.id,0)
theorem qys (n d:Int) (l:List Pt):(ordI n d l).Perm l:=qy6 _ l
theorem qyt {p q:Pt} {n d:Int} (h:leads p q n d=false):¬ ((q.a*d+q.b*n<p.a*d+p.b*n)∨(q.a*d+q.b*n=p.a*d+p.b*n/\(q.b<p.b∨(q.b=p.b/\p.id<q.id)))):=by
 intro k;rw[(qyq p q n d).2 k]at h;cases h
theorem qyu (n d:Int) (l:List Pt):(ordI n d l).Pairwise fun p q=>leads q p n d=false:=by
 refine qy8 (S:=fun _=>True) (fun a b _ _ h=>?_) (fun a b c _ _ _ h1 h2=>?_) l (fun _ _=>trivial)
 ·rw[qyq]at h
  rw[← Bool.not_eq_true,qyq];omega
 ·have h1:=qyt h1
  have h2:=qyt h2
  rw[← Bool.not_eq_true,qyq];omega
theorem qyv {n d:Int} {l:List Pt} (hinc:incB l=true) (hd:1<=d):qww n d l=ordI n d l:=by
 refine List.Perm.eq_of_pairwise (le:=fun p q=>leads q p n d=false) ?_ ((qwz (qx9 hinc) (qyp hinc)).imp fun {a b} h=>?_) (qyu n d l) ((qwx n d l).trans (qys n d l).symm)
 ·intro a b _ _ h k
  have h1:=qyt h
  have h2:=qyt k
  have e1:a.b=b.b:=by omega
  have e2:a.id=b.id:=by omega
  have e3:a.a*d+a.b*n=b.a*d+b.b*n:=by omega
  rw[e1]at e3
  have e4:a.a*d=b.a*d:=by omega
  have e5:=Int.eq_of_mul_eq_mul_right (by omega) e4
  obtain⟨x,y,z⟩:=a
  obtain⟨x',y',z'⟩:=b
  simp only at e1 e2 e5
  subst e1 e2 e5
  rfl
 ·rw[qyq]at h
  rw[← Bool.not_eq_true,qyq];omega
theorem qyw (l:List Pt) (n d:Int):qxd l n d=qyr l n d:=by
 unfold qxd qx8 qyr
 by_cases h1:qmq l=0
 ·simp only[h1,ne_eq,not_true_eq_false,if_false]
  by_cases h2:qjo n d=0
  ·simp only[h2,ne_eq,not_true_eq_false,if_false]
   rw[qyv (qmv h1).2.2 (qjv h2).1]
  ·simp only[h2,ne_eq,not_false_eq_true,if_true]
 ·simp only[h1,ne_eq,not_false_eq_true,if_true]
end Go.Pel
namespace Go.Proofs.YtfjjdnaggblaaaaGreat
open Go Go.Tx Go.Pel Go.Proofs.Tryz
set_option maxRecDepth 100000
set_option maxHeartbeats 0
abbrev qyx:List Pk:=[.row Riii true,.row Riii true,.row Rii true]
abbrev qyy:Type:=Diii×Diii×Dii×Unit
abbrev qyz:Type:=Int
def qz0 (r:qyz):LV×List Ob:=(.int .i64 r,[])
def qz1 (F:qyy->Option qyz):Go.Tx.Spec:=⟨144,qyx,qyz,F,qz0⟩
def qz2 (x:qyy):Bool:=qs9 (ofP x.1) (ofP x.2.1) x.2.2.1.1 x.2.2.1.2.1
def qz3 (d:Nat) (x:qyy):Option qyz:=bif qz2 x then some (cmpC (ofP x.1) (ofP x.2.1) x.2.2.1.1 x.2.2.1.2.1) else none
theorem qz4 (d:Nat) (x:qyy) (h:qz2 x=true):qz3 d x=some (cmpC (ofP x.1) (ofP x.2.1) x.2.2.1.1 x.2.2.1.2.1):=by unfold qz3;rw[h];rfl
theorem qz5 (d:Nat):COK prog (qz1 (qz3 d)):=by
 refine qo6 (qo7 (fn:=f144) (by kernel_rfl) (by kernel_rfl) (by kernel_rfl)) fun x r hx w φ vs hφ hv=>?_
 have hx:qz3 d x=some r:=hx
 unfold qz3 at hx
 obtain⟨hc,rfl⟩:=qpm hx
 have hv:VRs (Emb.fro φ) [.agg [.int .i64 x.1.1,.int .i64 x.1.2.1,.int .i64 x.1.2.2.1],.agg [.int .i64 x.2.1.1,.int .i64 x.2.1.2.1,.int .i64 x.2.1.2.2.1],.agg [.int .i64 x.2.2.1.1,.int .i64 x.2.2.1.2.1]] vs:=hv
 obtain⟨v0,vs,rfl,q0,hv⟩:=VRs.uncons hv
 obtain⟨v1,vs,rfl,q1,hv⟩:=VRs.uncons hv
 obtain⟨v2,rfl,q2⟩:=vrs1 hv
 have r0:=qnz (p:=x.1) q0;subst r0
 have r1:=qnz (p:=x.2.1) q1;subst r1
 have r2:=qo0 q2;subst r2
 unfold qz2 at hc
 have h1:=hc
 refine (qrf (ofP x.1) (ofP x.2.1) x.2.2.1.1 x.2.2.1.2.1 w (qsa h1)).mono ?_
 rintro e w' ⟨rfl,y,rfl⟩
 exact qo4 hφ (.int _ _) y
abbrev qz6:List Pk:=[.row RLiE false,.row RLiE false]
abbrev qz7:Type:=DLiE×DLiE×Unit
abbrev qz8:Type:=Bool
def qz9 (r:qz8):LV×List Ob:=(.bool r,[])
def qza (F:qz7->Option qz8):Go.Tx.Spec:=⟨47,qz6,qz8,F,qz9⟩
def qzb (x:qz7):Bool:=decide ((idsI x.1.1).length<=1000000)&&decide ((idsI x.2.1.1).length<=1000000)
def qzc (d:Nat) (x:qz7):Option qz8:=bif qzb x then some (decide ((idsI x.1.1)=(idsI x.2.1.1))) else none
theorem qzd (d:Nat) (x:qz7) (h:qzb x=true):qzc d x=some (decide ((idsI x.1.1)=(idsI x.2.1.1))):=by unfold qzc;rw[h];rfl
theorem qze (d:Nat):COK prog (qza (qzc d)):=by
 refine qo6 (qo7 (fn:=f47) (by kernel_rfl) (by kernel_rfl) (by kernel_rfl)) fun x r hx w φ vs hφ hv=>?_
 have hx:qzc d x=some r:=hx
 unfold qzc at hx
 obtain⟨hc,rfl⟩:=qpm hx
 have hv:VRs (Emb.fro φ) [.fz RI x.1.1,.fz RI x.2.1.1] vs:=hv
 obtain⟨v0,vs,rfl,q0,hv⟩:=VRs.uncons hv
 obtain⟨v1,rfl,q1⟩:=vrs1 hv
 obtain⟨A0,c0,rfl,s0,z0⟩:=qpg hφ q0
 obtain⟨A1,c1,rfl,s1,z1⟩:=qpg hφ q1
 unfold qzb at hc
 simp only[Bool.and_eq_true]at hc
 obtain⟨h1,h2⟩:=hc
 replace h1:=of_decide_eq_true h1
 replace h2:=of_decide_eq_true h2
 refine (qxt A0 A1 c0 c1 (idsI x.1.1) (idsI x.2.1.1) w s0 s1 h1 h2).mono ?_
 rintro e w' ⟨rfl,y,rfl⟩
 exact qo4 hφ (.bool _) y
abbrev qzf:List Pk:=[.row qhx true,.row Ri false]
abbrev qzg:Type:=qhy×Di×Unit
abbrev qzh:Type:=Int×Int×Int×Int
def qzi (r:qzh):LV×List Ob:=(.tup [.agg [.int .i64 r.1,.int .i64 r.2.1,.int .i64 r.2.2.1],.int .i64 r.2.2.2],[])
def qzj (F:qzg->Option qzh):Go.Tx.Spec:=⟨68,qzf,qzh,F,qzi⟩
def qzk (x:qzg):Bool:=true
def qzl (d:Nat) (x:qzg):Option qzh:=bif qzk x then some ((qn8 (ptsL x.1.1) x.2.1.1).1.id,(qn8 (ptsL x.1.1) x.2.1.1).1.a,(qn8 (ptsL x.1.1) x.2.1.1).1.b,(qn8 (ptsL x.1.1) x.2.1.1).2) else none
theorem qzm (d:Nat) (x:qzg) (h:qzk x=true):qzl d x=some ((qn8 (ptsL x.1.1) x.2.1.1).1.id,(qn8 (ptsL x.1.1) x.2.1.1).1.a,(qn8 (ptsL x.1.1) x.2.1.1).1.b,(qn8 (ptsL x.1.1) x.2.1.1).2):=by unfold qzl;rw[h];rfl
theorem qzn (d:Nat):COK prog (qzj (qzl d)):=by
 refine qo6 (qo7 (fn:=f68) (by kernel_rfl) (by kernel_rfl) (by kernel_rfl)) fun x r hx w φ vs hφ hv=>?_
 have hx:qzl d x=some r:=hx
 unfold qzl at hx
 obtain⟨hc,rfl⟩:=qpm hx
 have hv:VRs (Emb.fro φ) [.agg [.fz RP x.1.1],.int .i64 x.2.1.1] vs:=hv
 obtain⟨v0,vs,rfl,q0,hv⟩:=VRs.uncons hv
 obtain⟨v1,rfl,q1⟩:=vrs1 hv
 obtain⟨A0,c0,rfl,s0,z0⟩:=qph hφ q0
 have r1:=qo1 q1;subst r1
 refine (qwm A0 c0 (ptsL x.1.1) x.2.1.1 w s0).mono ?_
 rintro e w' ⟨rfl,y,rfl⟩
 exact qo4 hφ (VR.tupL (VRs.cons (VR.aggL (VRs.cons (.int _ _) (VRs.cons (.int _ _) (VRs.cons (.int _ _) VRs.nil)))) (VRs.cons (.int _ _) VRs.nil))) y
abbrev qzo:List Pk:=[.row qhx true,.row Rii true]
abbrev qzp:Type:=qhy×Dii×Unit
abbrev qzq:Type:=Int×Int
def qzr (r:qzq):LV×List Ob:=(.tup [.int .i64 r.1,.int .i64 r.2],[])
def qzs (F:qzp->Option qzq):Go.Tx.Spec:=⟨67,qzo,qzq,F,qzr⟩
def qzt (x:qzp):Bool:=i64B x.2.1.1&&i64B x.2.1.2.1
def qzu (d:Nat) (x:qzp):Option qzq:=bif qzt x then some ((qxb (ptsL x.1.1) x.2.1.1 x.2.1.2.1).1,(qxb (ptsL x.1.1) x.2.1.1 x.2.1.2.1).2) else none
theorem qzv (d:Nat) (x:qzp) (h:qzt x=true):qzu d x=some ((qxb (ptsL x.1.1) x.2.1.1 x.2.1.2.1).1,(qxb (ptsL x.1.1) x.2.1.1 x.2.1.2.1).2):=by unfold qzu;rw[h];rfl
theorem qzw (d:Nat):COK prog (qzs (qzu d)):=by
 refine qo6 (qo7 (fn:=f67) (by kernel_rfl) (by kernel_rfl) (by kernel_rfl)) fun x r hx w φ vs hφ hv=>?_
 have hx:qzu d x=some r:=hx
 unfold qzu at hx
 obtain⟨hc,rfl⟩:=qpm hx
 have hv:VRs (Emb.fro φ) [.agg [.fz RP x.1.1],.agg [.int .i64 x.2.1.1,.int .i64 x.2.1.2.1]] vs:=hv
 obtain⟨v0,vs,rfl,q0,hv⟩:=VRs.uncons hv
 obtain⟨v1,rfl,q1⟩:=vrs1 hv
 obtain⟨A0,c0,rfl,s0,z0⟩:=qph hφ q0
 have r1:=qo0 q1;subst r1
 unfold qzt at hc
 simp only[Bool.and_eq_true]at hc
 obtain⟨h1,h2⟩:=hc
 refine (qxc A0 c0 (ptsL x.1.1) x.2.1.1 x.2.1.2.1 w (qpj h1) (qpj h2) s0 z0).mono ?_
 rintro e w' ⟨rfl,y,rfl⟩
 exact qo4 hφ (VR.tupL (VRs.cons (.int _ _) (VRs.cons (.int _ _) VRs.nil))) y
abbrev qzx:List Pk:=[.row qhx true,.row Rii true]
abbrev qzy:Type:=qhy×Dii×Unit
abbrev qzz:Type:=List Di×Int
def q100 (r:qzz):LV×List Ob:=(.tup [.rs 0,.int .i64 r.2],[.rows Ri r.1])
def q101 (F:qzy->Option qzz):Go.Tx.Spec:=⟨10,qzx,qzz,F,q100⟩
def q102 (x:qzy):Bool:=i64B x.2.1.1&&i64B x.2.1.2.1&&decide ((ptsL x.1.1).length<=1000000)
def q103 (d:Nat) (x:qzy):Option qzz:=bif q102 x then some (unI (qyr (ptsL x.1.1) x.2.1.1 x.2.1.2.1).1,(qyr (ptsL x.1.1) x.2.1.1 x.2.1.2.1).2) else none
theorem q104 (d:Nat) (x:qzy) (h:q102 x=true):q103 d x=some (unI (qyr (ptsL x.1.1) x.2.1.1 x.2.1.2.1).1,(qyr (ptsL x.1.1) x.2.1.1 x.2.1.2.1).2):=by unfold q103;rw[h];rfl
theorem q105 (d:Nat):COK prog (q101 (q103 d)):=by
 refine qo6 (qo7 (fn:=f10) (by kernel_rfl) (by kernel_rfl) (by kernel_rfl)) fun x r hx w φ vs hφ hv=>?_
 have hx:q103 d x=some r:=hx
 unfold q103 at hx
 obtain⟨hc,rfl⟩:=qpm hx
 have hv:VRs (Emb.fro φ) [.agg [.fz RP x.1.1],.agg [.int .i64 x.2.1.1,.int .i64 x.2.1.2.1]] vs:=hv
 obtain⟨v0,vs,rfl,q0,hv⟩:=VRs.uncons hv
 obtain⟨v1,rfl,q1⟩:=vrs1 hv
 obtain⟨A0,c0,rfl,s0,z0⟩:=qph hφ q0
 have r1:=qo0 q1;subst r1
 unfold q102 at hc
 simp only[Bool.and_eq_true]at hc
 obtain⟨⟨h1,h2⟩,h3⟩:=hc
 replace h3:=of_decide_eq_true h3
 refine ((qyw (ptsL x.1.1) x.2.1.1 x.2.1.2.1)▸qxk A0 c0 (ptsL x.1.1) x.2.1.1 x.2.1.2.1 w (qpj h1) (qpj h2) s0 z0 h3).mono ?_
 rintro e w' ⟨A',c',rfl,y,rfl,ho⟩
 exact qo5 hφ (τ:=Ri) rfl (qpc _) ho (qpf _) fun η e0=>VR.tupL (VRs.cons (.rs e0) (VRs.cons (.int _ _) VRs.nil))
end Go.Proofs.YtfjjdnaggblaaaaGreat
namespace Go.Proofs.YtfjjdnaggblaaaaGreat
open Go Go.Tx Go.Proofs.Tryz
set_option maxRecDepth 100000
set_option maxHeartbeats 0
noncomputable section
abbrev q106:Type:=Di×Unit
abbrev q107:Type:=List Di×List Db×List Di×Int
noncomputable def q108 (d:Nat):Ent:=⟨tysT,(orc []),f78,mkPl [(2,(.box [.own Ri,.own Rb,.own Ri])),(4,(.box [.own Ri,.own Rb,.own Ri]))] [([0],[0,2]),([1],[0,2,11]),([3],[0,2,4]),([4,7,8],[0,2,4,20,21]),([5],[0,2,4,20,21,22]),([6],[0,2,4,5,20,21]),([9],[2,3])] [] [(5,[0,2,4,20,21])],d,78,[.row Ri false],(.tup [(.agg [.undef,.undef,.undef]),.undef]),[.o Ri,.o Rb,.o Ri,.i .i64]⟩
theorem q109 (d:Nat):COK prog (q108 d).s:=Ent.k mixed tys (qeo ac0) ⟨by kernel_rfl,by kernel_rfl,by kernel_rfl⟩
noncomputable def q10a (d:Nat) (x:q106):Option q107:=(q108 d).F x
abbrev q10b:Type:=Int×Int×Int×List Di×List Db×List Di×List Di×List Db×List Di
def q10c (d:Nat) (self1:q10b->Option q107):q10b->Option q107:=fun (x1a,x1b,x1c,x1d,x1e,x1f,x1g,x1h,x1i) =>
 (bif (decide (x1c<x1b)) then (obif (inB x1c x1i.length) (self1 (x1a,x1b,(wi (x1c+1)),x1d,x1e,x1f,x1g,x1h,(List.set x1i x1c.toNat ((wi ((wi (x1a-1))-x1c)),())))) none) else some (x1g,x1h,x1i,0))
def q10d:q10b->St:=fun (x1a,x1b,x1c,x1d,x1e,x1f,x1g,x1h,x1i)=>⟨[(0,i6 x1a),(2,.ptr 0 0),(4,.ptr 4 0),(20,i6 x1b),(21,i6 x1c)],[.cells [.rs 1,.rs 2,.rs 3],.rows Ri x1d,.rows Rb x1e,.rows Ri x1f,.cells [.rs 5,.rs 6,.rs 7],.rows Ri x1g,.rows Rb x1h,.rows Ri x1i]⟩
def q10e (d:Nat) (L1_g:q10b->Option q107):(Int×Bool×List Di×List Db×List Di)->Option q107:=fun (ya,yb,yc,yd,ye) =>
 (bif yb then none else (obif (mkB ya ya) (obif (mkB ya ya) (obif (mkB ya ya) (L1_g (ya,ya,0,yc,yd,ye,(List.replicate ya.toNat zi),(List.replicate ya.toNat zb),(List.replicate ya.toNat zi))) none) none) none))
theorem q10f (d:Nat) (self1:St->Option q107) (x:q10b):(q108 d).b 5 [] self1 (q10d x)=q10c d (fun y=>self1 (q10d y)) x:=by kernel_rfl
def q10g (d:Nat) (L1_g:q10b->Option q107):q106->Option q107:=fun ((xAa,_),_) =>
 (let a1:=([]:List Di);(let a2:=([]:List Db);(let a3:=([]:List Di);(obif (decide (xAa<1)) (q10e d L1_g (xAa,true,a1,a2,a3)) (q10e d L1_g (xAa,(decide (xAa>200)),a1,a2,a3))))))
theorem q10h (d:Nat) (x:q106):q10a d x=q10g d (iter (q10c d) d) x:=by
 have h:q10a d x=q10g d (fun y=>iter ((q108 d).b 5 []) d (q10d y)) x:=by kernel_rfl
 rw[h];congr 1<;>(funext y;first | rfl | exact qfi (q10f d) d y)
abbrev q10i:Type:=qij×Unit
abbrev q10j:Type:=Int
noncomputable def q10k (d:Nat):Ent:=⟨tysT,(orc []),f101,mkPl [(1,(.box [.val Ri,.val Rb,.val Ri])),(4,(.own Rb))] [([0],[1]),([1],[1,3]),([2],[1,3,29]),([4],[1,3,4]),([5,7,10],[1,3,4,5]),([6],[1,3,4,5,36]),([8],[1,3,4,5,63]),([11,13],[1,3,4,6]),([12],[1,3,4,6,73]),([14],[1,3,4,6,116]),([16],[2])] [] [(12,[1,3,4,6]),(6,[1,3,4,5])],d,101,[.row qii true],.undef,[.i .i64]⟩
theorem q10l (d:Nat):COK prog (q10k d).s:=Ent.k mixed tys (qeo ac0) ⟨by kernel_rfl,by kernel_rfl,by kernel_rfl⟩
noncomputable def q10m (d:Nat) (x:q10i):Option q10j:=(q10k d).F x
abbrev q10n:Type:=Int×Int×List Di×List Db×List Di×List Db
abbrev q10o:Type:=Int×Int×List Di×List Db×List Di×List Db
def q10p (d:Nat) (self1:q10o->Option q10j):(Int×Int×Bool×List Di×List Db×List Di×List Db)->Option q10j:=fun (ya,yb,yc,yd,ye,yf,yg) =>
 (bif yc then none else (obif (inB yb yf.length) (let e2:=(elt zi yf yb.toNat);(obif (inB e2.1 yg.length) (self1 (ya,(wi (yb+1)),yd,ye,yf,(List.set yg (e2.1).toNat (true,())))) none)) none))
def q10q (d:Nat) (self2:q10n->Option q10j):(Int×Int×Bool×List Di×List Db×List Di×List Db)->Option q10j:=fun (ya,yb,yc,yd,ye,yf,yg) =>
 (bif yc then none else (self2 (ya,(wi (yb+1)),yd,ye,yf,yg)))
def q10r (d:Nat) (self2:q10n->Option q10j):q10n->Option q10j:=fun (x2a,x2b,x2c,x2d,x2e,x2f) =>
 (bif (decide (x2b<x2a)) then (obif (inB x2b x2c.length) (obif (decide ((elt zi x2c x2b.toNat).1<0)) (q10q d self2 (x2a,x2b,true,x2c,x2d,x2e,x2f)) (obif (inB x2b x2c.length) (obif (decide ((elt zi x2c x2b.toNat).1>1000000)) (q10q d self2 (x2a,x2b,true,x2c,x2d,x2e,x2f)) (obif (inB x2b x2d.length) (obif (inB x2b x2f.length) (obif ((elt zb x2d x2b.toNat).1==(elt zb x2f x2b.toNat).1) (q10q d self2 (x2a,x2b,true,x2c,x2d,x2e,x2f)) (obif (inB x2b x2d.length) (obif (elt zb x2d x2b.toNat).1 (obif (inB x2b x2c.length) (q10q d self2 (x2a,x2b,(decide ((elt zi x2c x2b.toNat).1<1)),x2c,x2d,x2e,x2f)) none) (q10q d self2 (x2a,x2b,false,x2c,x2d,x2e,x2f))) none)) none) none)) none)) none) else some 0)
def q10s:q10n->St:=fun (x2a,x2b,x2c,x2d,x2e,x2f)=>⟨[(1,.ptr 0 0),(3,i6 x2a),(4,.rs 1),(6,i6 x2b)],[.cells [.fz Ri x2c,.fz Rb x2d,.fz Ri x2e],.rows Rb x2f]⟩
def q10t (d:Nat) (L2_g:q10n->Option q10j) (self1:q10o->Option q10j):q10o->Option q10j:=fun (x1a,x1b,x1c,x1d,x1e,x1f) =>
 (bif (decide (x1b<(x1e.length:Int))) then (obif (inB x1b x1e.length) (obif (decide ((elt zi x1e x1b.toNat).1<0)) (q10p d self1 (x1a,x1b,true,x1c,x1d,x1e,x1f)) (obif (inB x1b x1e.length) (obif (decide ((elt zi x1e x1b.toNat).1≥x1a)) (q10p d self1 (x1a,x1b,true,x1c,x1d,x1e,x1f)) (obif (inB x1b x1e.length) (let e3:=(elt zi x1e x1b.toNat);(obif (inB e3.1 x1f.length) (q10p d self1 (x1a,x1b,(elt zb x1f (e3.1).toNat).1,x1c,x1d,x1e,x1f)) none)) none)) none)) none) else (L2_g (x1a,0,x1c,x1d,x1e,x1f)))
def q10u:q10o->St:=fun (x1a,x1b,x1c,x1d,x1e,x1f)=>⟨[(1,.ptr 0 0),(3,i6 x1a),(4,.rs 1),(5,i6 x1b)],[.cells [.fz Ri x1c,.fz Rb x1d,.fz Ri x1e],.rows Rb x1f]⟩
def q10v (d:Nat) (L1_g:q10o->Option q10j):(Int×Bool×List Di×List Db×List Di)->Option q10j:=fun (ya,yb,yc,yd,ye) =>
 (bif yb then none else (obif (mkB ya ya) (L1_g (ya,0,yc,yd,ye,(List.replicate ya.toNat zb))) none))
theorem q10w (d:Nat) (self1:St->Option q10j) (self2:St->Option q10j) (x:q10n):(q10k d).b 12 [self1] self2 (q10s x)=q10r d (fun y=>self2 (q10s y)) x:=by kernel_rfl
def q10x (d:Nat) (self1:q10o->Option q10j) (x:q10o):Option q10j:=q10t d (iter (q10r d) d) self1 x
theorem q10y (d:Nat) (self1:St->Option q10j) (x:q10o):(q10k d).b 6 [] self1 (q10u x)=q10x d (fun y=>self1 (q10u y)) x:=by
 have h:(q10k d).b 6 [] self1 (q10u x)=q10t d (fun y=>iter ((q10k d).b 12 [self1]) d (q10s y)) (fun y=>self1 (q10u y)) x:=by kernel_rfl
 rw[h];unfold q10x;congr 1<;>(funext y;first | rfl | exact qfi (q10w d self1) d y)
def q10z (d:Nat) (L1_g:q10o->Option q10j):q10i->Option q10j:=fun ((xAa,xAb,xAc,_),_) =>
 (let a1:=(xAa.length:Int);(obif (decide (a1<1)) (q10v d L1_g (a1,true,xAa,xAb,xAc)) (obif (decide (a1>200)) (q10v d L1_g (a1,true,xAa,xAb,xAc)) (obif ((xAb.length:Int) != a1) (q10v d L1_g (a1,true,xAa,xAb,xAc)) (q10v d L1_g (a1,(decide ((xAc.length:Int)>a1)),xAa,xAb,xAc))))))
theorem q110 (d:Nat) (x:q10i):q10m d x=q10z d (iter (q10x d) d) x:=by
 have h:q10m d x=q10z d (fun y=>iter ((q10k d).b 6 []) d (q10u y)) x:=by kernel_rfl
 rw[h];congr 1<;>(funext y;first | rfl | exact qfi (q10y d) d y)
abbrev q111:Type:=qij×Dii×Unit
abbrev q112:Type:=Bool
noncomputable def q113 (d:Nat):Ent:=⟨tysT,(orc []),f105,mkPl [(2,(.box [.val Ri,.val Rb,.val Ri]))] [([0],[2,3]),([1],[4])] [] [],d,105,[.row qii true,.row Rii true],.undef,[.bo]⟩
theorem q114 (d:Nat):COK prog (q113 d).s:=Ent.k mixed tys (qeo ac0) ⟨by kernel_rfl,by kernel_rfl,by kernel_rfl⟩
noncomputable def q115 (d:Nat) (x:q111):Option q112:=(q113 d).F x
def q116 (d:Nat):q111->Option q112:=fun ((xAa,xAb,_,_),(xBa,xBb,_),_) =>
 (obif (decide (xBa≥0)) (obif (decide (xBa<(xAa.length:Int))) (obif (inB xBa xAb.length) (obif (elt zb xAb xBa.toNat).1 (obif (inB xBa xAa.length) (some ((elt zi xAa xBa.toNat).1==xBb)) none) (some false)) none) (some false)) (some false))
theorem q117 (d:Nat) (x:q111):q115 d x=q116 d x:=by kernel_rfl
end
noncomputable section
abbrev q118:List Pk:=[.row qio false]
abbrev q119:Type:=qip×Unit
abbrev q11a:Type:=List qim
def q11b (r:q11a):LV×List Ob:=(.rs 0,[.rows qil r])
def q11c (F:q119->Option q11a):Go.Tx.Spec:=⟨90,q118,q11a,F,q11b⟩
def q11d (_d:Nat) (x:q119):Option q11a:=bif apB 0 (List.length x.1.1) then some x.1.1 else none
theorem q11e (d:Nat):COK prog (q11c (q11d d)):=by
 have hm:prog.follows .mixedOrders=true:=mixed
 have hT:=tys
 have hC:OrcOK prog (orc []):=qeo (fun S hS=>by cases hS)
 refine qad (c:=qeu f90) (fn:=f90) hT (by kernel_rfl) (by kernel_rfl) (by decide) fun x r h w0 φ0 Q hend=>?_
 replace h:q11d d x=some r:=h
 unfold q11d at h
 obtain⟨hc,h⟩:=qev h
 injection h with h;subst h
 show Run prog w0 φ0 8 (qeu f90) ⟨[(0,.fz qil x.1.1)],[]⟩ Q
 refine q9x (qjg (s2:=⟨[(0,.fz qil x.1.1)],[]⟩) hm hT hC (by kernel_rfl:treg tysT (orc []) 8 (regO (qeu f90) 0) false [(0,.any)] ⟨[(0,.fz qil x.1.1)],[]⟩ some=some ⟨[(0,.fz qil x.1.1)],[]⟩) (q9j ?_))
 refine q9x (q9x (qjm (ops:=regO (qeu f90) 1) (src:=0) (t1:=3) (t2:=4) (e:=74) rfl rfl rfl rfl rfl rfl rfl rfl rfl (by kernel_rfl) fun b hb=>q9j ?_))
 cases b with
 | true =>
  obtain⟨l,u⟩:=x
  obtain⟨l,u2⟩:=l
  have hl:l=[]:=hb rfl
  subst hl
  refine qa1 (v:=true) (A:=some ()) (B:=none) (r:=()) (by kernel_rfl) rfl (fun _=>?_) (fun h=>by cases h)
  refine q9x (qjg (s2:=⟨[(2,.rs 0)],[.rows qil ([]:List qim)]⟩) hm hT hC (by kernel_rfl:treg tysT (orc []) 8 (regO (qeu f90) 2) false [(2,.own qil)] ⟨[(0,.fz qil ([]:List qim)),(4,.bool true)],[]⟩ some=some ⟨[(2,.rs 0)],[.rows qil ([]:List qim)]⟩) (q9j (q9w (q9l ?_))))
  exact (hend _ (by kernel_rfl)).2
 | false =>
  refine qa1 (v:=false) (A:=none) (B:=some ()) (r:=()) (by kernel_rfl) rfl (fun h=>by cases h) (fun _=>?_)
  refine q9t (q9j ?_)
  have hg:treg tysT (orc []) 8 (regO (qeu f90) 3) false [(2,.own qil)] ⟨[(0,.fz qil x.1.1),(4,.bool false)],[]⟩ some=some ⟨[(2,.rs 0)],[.rows qil x.1.1]⟩:=by
   exact (show treg tysT (orc []) 8 (regO (qeu f90) 3) false [(2,.own qil)] ⟨[(0,.fz qil x.1.1),(4,.bool false)],[]⟩ some=(bif apB 0 (List.length x.1.1) then some ⟨[(2,.rs 0)],[.rows qil x.1.1]⟩ else none) by kernel_rfl).trans (qjl hc)
  refine q9x (qjg hm hT hC hg (q9j (q9w ?_)))
  exact (hend _ (by kernel_rfl)).2
abbrev q11f:List Pk:=[.row RLiE false]
abbrev q11g:Type:=DLiE×Unit
abbrev q11h:Type:=List Di
def q11i (r:q11h):LV×List Ob:=(.rs 0,[.rows Ri r])
def q11j (F:q11g->Option q11h):Go.Tx.Spec:=⟨91,q11f,q11h,F,q11i⟩
def q11k (_d:Nat) (x:q11g):Option q11h:=bif apB 0 (List.length x.1.1) then some x.1.1 else none
theorem q11l (d:Nat):COK prog (q11j (q11k d)):=by
 have hm:prog.follows .mixedOrders=true:=mixed
 have hT:=tys
 have hC:OrcOK prog (orc []):=qeo (fun S hS=>by cases hS)
 refine qad (c:=qeu f91) (fn:=f91) hT (by kernel_rfl) (by kernel_rfl) (by decide) fun x r h w0 φ0 Q hend=>?_
 replace h:q11k d x=some r:=h
 unfold q11k at h
 obtain⟨hc,h⟩:=qev h
 injection h with h;subst h
 show Run prog w0 φ0 8 (qeu f91) ⟨[(0,.fz Ri x.1.1)],[]⟩ Q
 refine q9x (qjg (s2:=⟨[(0,.fz Ri x.1.1)],[]⟩) hm hT hC (by kernel_rfl:treg tysT (orc []) 8 (regO (qeu f91) 0) false [(0,.any)] ⟨[(0,.fz Ri x.1.1)],[]⟩ some=some ⟨[(0,.fz Ri x.1.1)],[]⟩) (q9j ?_))
 refine q9x (q9x (qjm (ops:=regO (qeu f91) 1) (src:=0) (t1:=3) (t2:=4) (e:=3) rfl rfl rfl rfl rfl rfl rfl rfl rfl (by kernel_rfl) fun b hb=>q9j ?_))
 cases b with
 | true =>
  obtain⟨l,u⟩:=x
  obtain⟨l,u2⟩:=l
  have hl:l=[]:=hb rfl
  subst hl
  refine qa1 (v:=true) (A:=some ()) (B:=none) (r:=()) (by kernel_rfl) rfl (fun _=>?_) (fun h=>by cases h)
  refine q9x (qjg (s2:=⟨[(2,.rs 0)],[.rows Ri ([]:List Di)]⟩) hm hT hC (by kernel_rfl:treg tysT (orc []) 8 (regO (qeu f91) 2) false [(2,.own Ri)] ⟨[(0,.fz Ri ([]:List Di)),(4,.bool true)],[]⟩ some=some ⟨[(2,.rs 0)],[.rows Ri ([]:List Di)]⟩) (q9j (q9w (q9l ?_))))
  exact (hend _ (by kernel_rfl)).2
 | false =>
  refine qa1 (v:=false) (A:=none) (B:=some ()) (r:=()) (by kernel_rfl) rfl (fun h=>by cases h) (fun _=>?_)
  refine q9t (q9j ?_)
  have hg:treg tysT (orc []) 8 (regO (qeu f91) 3) false [(2,.own Ri)] ⟨[(0,.fz Ri x.1.1),(4,.bool false)],[]⟩ some=some ⟨[(2,.rs 0)],[.rows Ri x.1.1]⟩:=by
   exact (show treg tysT (orc []) 8 (regO (qeu f91) 3) false [(2,.own Ri)] ⟨[(0,.fz Ri x.1.1),(4,.bool false)],[]⟩ some=(bif apB 0 (List.length x.1.1) then some ⟨[(2,.rs 0)],[.rows Ri x.1.1]⟩ else none) by kernel_rfl).trans (qjl hc)
  refine q9x (qjg hm hT hC hg (q9j (q9w ?_)))
  exact (hend _ (by kernel_rfl)).2
abbrev q11m:Type:=qis×Unit
abbrev q11n:Type:=List Di×List Db×List Di×List qim×List Di
noncomputable def q11o (d:Nat):Ent:=⟨tysT,(orc [q11c (q11d d),q11j (q11k d)]),f97,mkPl [(1,(.box [.val Ri,.val Rb,.val Ri,.val qil,.val Ri])),(2,(.box [.val Ri,.val Rb,.val Ri,.own qil,.own Ri]))] [([0,1],[1,2]),([2],[2])] [(1,[(1,(.box [.val Ri,.val Rb,.val Ri,.own qil,.own Ri]))])] [],d,97,[.row qir true],(.agg [.undef,.undef,.undef,.undef,.undef]),[.z Ri,.z Rb,.z Ri,.o qil,.o Ri]⟩
theorem q11p (d:Nat):COK prog (q11o d).s:=Ent.k mixed tys (qeo (ac1 (q11e d) (ac1 (q11l d) ac0))) ⟨by kernel_rfl,by kernel_rfl,by kernel_rfl⟩
noncomputable def q11q (d:Nat) (x:q11m):Option q11n:=(q11o d).F x
def q11r (d:Nat):q11m->Option q11n:=fun ((xAa,xAb,xAc,xAd,xAe,_),_) =>
 (obnd (q11d d ((xAd,()),())) fun r1=>(obnd (q11k d ((xAe,()),())) fun r2=>some (xAa,xAb,xAc,r1,r2)))
theorem q11s (d:Nat) (x:q11m):q11q d x=q11r d x:=by kernel_rfl
abbrev q11t:List Pk:=[.row RLbE false]
abbrev q11u:Type:=DLbE×Unit
abbrev q11v:Type:=List Db
def q11w (r:q11v):LV×List Ob:=(.rs 0,[.rows Rb r])
def q11x (F:q11u->Option q11v):Go.Tx.Spec:=⟨92,q11t,q11v,F,q11w⟩
def q11y (_d:Nat) (x:q11u):Option q11v:=bif apB 0 (List.length x.1.1) then some x.1.1 else none
theorem q11z (d:Nat):COK prog (q11x (q11y d)):=by
 have hm:prog.follows .mixedOrders=true:=mixed
 have hT:=tys
 have hC:OrcOK prog (orc []):=qeo (fun S hS=>by cases hS)
 refine qad (c:=qeu f92) (fn:=f92) hT (by kernel_rfl) (by kernel_rfl) (by decide) fun x r h w0 φ0 Q hend=>?_
 replace h:q11y d x=some r:=h
 unfold q11y at h
 obtain⟨hc,h⟩:=qev h
 injection h with h;subst h
 show Run prog w0 φ0 8 (qeu f92) ⟨[(0,.fz Rb x.1.1)],[]⟩ Q
 refine q9x (qjg (s2:=⟨[(0,.fz Rb x.1.1)],[]⟩) hm hT hC (by kernel_rfl:treg tysT (orc []) 8 (regO (qeu f92) 0) false [(0,.any)] ⟨[(0,.fz Rb x.1.1)],[]⟩ some=some ⟨[(0,.fz Rb x.1.1)],[]⟩) (q9j ?_))
 refine q9x (q9x (qjm (ops:=regO (qeu f92) 1) (src:=0) (t1:=3) (t2:=4) (e:=4) rfl rfl rfl rfl rfl rfl rfl rfl rfl (by kernel_rfl) fun b hb=>q9j ?_))
 cases b with
 | true =>
  obtain⟨l,u⟩:=x
  obtain⟨l,u2⟩:=l
  have hl:l=[]:=hb rfl
  subst hl
  refine qa1 (v:=true) (A:=some ()) (B:=none) (r:=()) (by kernel_rfl) rfl (fun _=>?_) (fun h=>by cases h)
  refine q9x (qjg (s2:=⟨[(2,.rs 0)],[.rows Rb ([]:List Db)]⟩) hm hT hC (by kernel_rfl:treg tysT (orc []) 8 (regO (qeu f92) 2) false [(2,.own Rb)] ⟨[(0,.fz Rb ([]:List Db)),(4,.bool true)],[]⟩ some=some ⟨[(2,.rs 0)],[.rows Rb ([]:List Db)]⟩) (q9j (q9w (q9l ?_))))
  exact (hend _ (by kernel_rfl)).2
 | false =>
  refine qa1 (v:=false) (A:=none) (B:=some ()) (r:=()) (by kernel_rfl) rfl (fun h=>by cases h) (fun _=>?_)
  refine q9t (q9j ?_)
  have hg:treg tysT (orc []) 8 (regO (qeu f92) 3) false [(2,.own Rb)] ⟨[(0,.fz Rb x.1.1),(4,.bool false)],[]⟩ some=some ⟨[(2,.rs 0)],[.rows Rb x.1.1]⟩:=by
   exact (show treg tysT (orc []) 8 (regO (qeu f92) 3) false [(2,.own Rb)] ⟨[(0,.fz Rb x.1.1),(4,.bool false)],[]⟩ some=(bif apB 0 (List.length x.1.1) then some ⟨[(2,.rs 0)],[.rows Rb x.1.1]⟩ else none) by kernel_rfl).trans (qjl hc)
  refine q9x (qjg hm hT hC hg (q9j (q9w ?_)))
  exact (hend _ (by kernel_rfl)).2
abbrev q120:Type:=qij×Unit
abbrev q121:Type:=List Di×List Db×List Di
noncomputable def q122 (d:Nat):Ent:=⟨tysT,(orc [q11j (q11k d),q11x (q11y d)]),f153,mkPl [(1,(.box [.val Ri,.val Rb,.val Ri])),(2,(.box [.own Ri,.own Rb,.val Ri]))] [([0],[1,2]),([1],[2])] [] [],d,153,[.row qii true],(.agg [.undef,.undef,.undef]),[.o Ri,.o Rb,.z Ri]⟩
theorem q123 (d:Nat):COK prog (q122 d).s:=Ent.k mixed tys (qeo (ac1 (q11l d) (ac1 (q11z d) ac0))) ⟨by kernel_rfl,by kernel_rfl,by kernel_rfl⟩
noncomputable def q124 (d:Nat) (x:q120):Option q121:=(q122 d).F x
def q125 (d:Nat):q120->Option q121:=fun ((xAa,xAb,xAc,_),_) =>
 (obnd (q11k d ((xAa,()),())) fun r1=>(obnd (q11y d ((xAb,()),())) fun r2=>some (r1,r2,xAc)))
theorem q126 (d:Nat) (x:q120):q124 d x=q125 d x:=by kernel_rfl
abbrev q127:List Pk:=[.row qhx false]
abbrev q128:Type:=qhy×Unit
abbrev q129:Type:=List Diii
def q12a (r:q129):LV×List Ob:=(.rs 0,[.rows Riii r])
def q12b (F:q128->Option q129):Go.Tx.Spec:=⟨29,q127,q129,F,q12a⟩
def q12c (_d:Nat) (x:q128):Option q129:=bif apB 0 (List.length x.1.1) then some x.1.1 else none
theorem q12d (d:Nat):COK prog (q12b (q12c d)):=by
 have hm:prog.follows .mixedOrders=true:=mixed
 have hT:=tys
 have hC:OrcOK prog (orc []):=qeo (fun S hS=>by cases hS)
 refine qad (c:=qeu f29) (fn:=f29) hT (by kernel_rfl) (by kernel_rfl) (by decide) fun x r h w0 φ0 Q hend=>?_
 replace h:q12c d x=some r:=h
 unfold q12c at h
 obtain⟨hc,h⟩:=qev h
 injection h with h;subst h
 show Run prog w0 φ0 8 (qeu f29) ⟨[(0,.fz Riii x.1.1)],[]⟩ Q
 refine q9x (qjg (s2:=⟨[(0,.fz Riii x.1.1)],[]⟩) hm hT hC (by kernel_rfl:treg tysT (orc []) 8 (regO (qeu f29) 0) false [(0,.any)] ⟨[(0,.fz Riii x.1.1)],[]⟩ some=some ⟨[(0,.fz Riii x.1.1)],[]⟩) (q9j ?_))
 refine q9x (q9x (qjm (ops:=regO (qeu f29) 1) (src:=0) (t1:=3) (t2:=4) (e:=39) rfl rfl rfl rfl rfl rfl rfl rfl rfl (by kernel_rfl) fun b hb=>q9j ?_))
 cases b with
 | true =>
  obtain⟨l,u⟩:=x
  obtain⟨l,u2⟩:=l
  have hl:l=[]:=hb rfl
  subst hl
  refine qa1 (v:=true) (A:=some ()) (B:=none) (r:=()) (by kernel_rfl) rfl (fun _=>?_) (fun h=>by cases h)
  refine q9x (qjg (s2:=⟨[(2,.rs 0)],[.rows Riii ([]:List Diii)]⟩) hm hT hC (by kernel_rfl:treg tysT (orc []) 8 (regO (qeu f29) 2) false [(2,.own Riii)] ⟨[(0,.fz Riii ([]:List Diii)),(4,.bool true)],[]⟩ some=some ⟨[(2,.rs 0)],[.rows Riii ([]:List Diii)]⟩) (q9j (q9w (q9l ?_))))
  exact (hend _ (by kernel_rfl)).2
 | false =>
  refine qa1 (v:=false) (A:=none) (B:=some ()) (r:=()) (by kernel_rfl) rfl (fun h=>by cases h) (fun _=>?_)
  refine q9t (q9j ?_)
  have hg:treg tysT (orc []) 8 (regO (qeu f29) 3) false [(2,.own Riii)] ⟨[(0,.fz Riii x.1.1),(4,.bool false)],[]⟩ some=some ⟨[(2,.rs 0)],[.rows Riii x.1.1]⟩:=by
   exact (show treg tysT (orc []) 8 (regO (qeu f29) 3) false [(2,.own Riii)] ⟨[(0,.fz Riii x.1.1),(4,.bool false)],[]⟩ some=(bif apB 0 (List.length x.1.1) then some ⟨[(2,.rs 0)],[.rows Riii x.1.1]⟩ else none) by kernel_rfl).trans (qjl hc)
  refine q9x (qjg hm hT hC hg (q9j (q9w ?_)))
  exact (hend _ (by kernel_rfl)).2
abbrev q12e:List Pk:=[.row qhx false]
abbrev q12f:Type:=qhy×Unit
abbrev q12g:Type:=List Diii
def q12h (r:q12g):LV×List Ob:=(.rs 0,[.rows Riii r])
def q12i (F:q12f->Option q12g):Go.Tx.Spec:=⟨85,q12e,q12g,F,q12h⟩
def q12j (_d:Nat) (x:q12f):Option q12g:=bif apB 0 (List.length x.1.1) then some x.1.1 else none
theorem q12k (d:Nat):COK prog (q12i (q12j d)):=by
 have hm:prog.follows .mixedOrders=true:=mixed
 have hT:=tys
 have hC:OrcOK prog (orc []):=qeo (fun S hS=>by cases hS)
 refine qad (c:=qeu f85) (fn:=f85) hT (by kernel_rfl) (by kernel_rfl) (by decide) fun x r h w0 φ0 Q hend=>?_
 replace h:q12j d x=some r:=h
 unfold q12j at h
 obtain⟨hc,h⟩:=qev h
 injection h with h;subst h
 show Run prog w0 φ0 8 (qeu f85) ⟨[(0,.fz Riii x.1.1)],[]⟩ Q
 refine q9x (qjg (s2:=⟨[(0,.fz Riii x.1.1)],[]⟩) hm hT hC (by kernel_rfl:treg tysT (orc []) 8 (regO (qeu f85) 0) false [(0,.any)] ⟨[(0,.fz Riii x.1.1)],[]⟩ some=some ⟨[(0,.fz Riii x.1.1)],[]⟩) (q9j ?_))
 refine q9x (q9x (qjm (ops:=regO (qeu f85) 1) (src:=0) (t1:=3) (t2:=4) (e:=110) rfl rfl rfl rfl rfl rfl rfl rfl rfl (by kernel_rfl) fun b hb=>q9j ?_))
 cases b with
 | true =>
  obtain⟨l,u⟩:=x
  obtain⟨l,u2⟩:=l
  have hl:l=[]:=hb rfl
  subst hl
  refine qa1 (v:=true) (A:=some ()) (B:=none) (r:=()) (by kernel_rfl) rfl (fun _=>?_) (fun h=>by cases h)
  refine q9x (qjg (s2:=⟨[(2,.rs 0)],[.rows Riii ([]:List Diii)]⟩) hm hT hC (by kernel_rfl:treg tysT (orc []) 8 (regO (qeu f85) 2) false [(2,.own Riii)] ⟨[(0,.fz Riii ([]:List Diii)),(4,.bool true)],[]⟩ some=some ⟨[(2,.rs 0)],[.rows Riii ([]:List Diii)]⟩) (q9j (q9w (q9l ?_))))
  exact (hend _ (by kernel_rfl)).2
 | false =>
  refine qa1 (v:=false) (A:=none) (B:=some ()) (r:=()) (by kernel_rfl) rfl (fun h=>by cases h) (fun _=>?_)
  refine q9t (q9j ?_)
  have hg:treg tysT (orc []) 8 (regO (qeu f85) 3) false [(2,.own Riii)] ⟨[(0,.fz Riii x.1.1),(4,.bool false)],[]⟩ some=some ⟨[(2,.rs 0)],[.rows Riii x.1.1]⟩:=by
   exact (show treg tysT (orc []) 8 (regO (qeu f85) 3) false [(2,.own Riii)] ⟨[(0,.fz Riii x.1.1),(4,.bool false)],[]⟩ some=(bif apB 0 (List.length x.1.1) then some ⟨[(2,.rs 0)],[.rows Riii x.1.1]⟩ else none) by kernel_rfl).trans (qjl hc)
  refine q9x (qjg hm hT hC hg (q9j (q9w ?_)))
  exact (hend _ (by kernel_rfl)).2
abbrev q12l:List Pk:=[.row qhx false]
abbrev q12m:Type:=qhy×Unit
abbrev q12n:Type:=List Diii
def q12o (r:q12n):LV×List Ob:=(.rs 0,[.rows Riii r])
def q12p (F:q12m->Option q12n):Go.Tx.Spec:=⟨89,q12l,q12n,F,q12o⟩
def q12q (_d:Nat) (x:q12m):Option q12n:=bif apB 0 (List.length x.1.1) then some x.1.1 else none
theorem q12r (d:Nat):COK prog (q12p (q12q d)):=by
 have hm:prog.follows .mixedOrders=true:=mixed
 have hT:=tys
 have hC:OrcOK prog (orc []):=qeo (fun S hS=>by cases hS)
 refine qad (c:=qeu f89) (fn:=f89) hT (by kernel_rfl) (by kernel_rfl) (by decide) fun x r h w0 φ0 Q hend=>?_
 replace h:q12q d x=some r:=h
 unfold q12q at h
 obtain⟨hc,h⟩:=qev h
 injection h with h;subst h
 show Run prog w0 φ0 8 (qeu f89) ⟨[(0,.fz Riii x.1.1)],[]⟩ Q
 refine q9x (qjg (s2:=⟨[(0,.fz Riii x.1.1)],[]⟩) hm hT hC (by kernel_rfl:treg tysT (orc []) 8 (regO (qeu f89) 0) false [(0,.any)] ⟨[(0,.fz Riii x.1.1)],[]⟩ some=some ⟨[(0,.fz Riii x.1.1)],[]⟩) (q9j ?_))
 refine q9x (q9x (qjm (ops:=regO (qeu f89) 1) (src:=0) (t1:=3) (t2:=4) (e:=105) rfl rfl rfl rfl rfl rfl rfl rfl rfl (by kernel_rfl) fun b hb=>q9j ?_))
 cases b with
 | true =>
  obtain⟨l,u⟩:=x
  obtain⟨l,u2⟩:=l
  have hl:l=[]:=hb rfl
  subst hl
  refine qa1 (v:=true) (A:=some ()) (B:=none) (r:=()) (by kernel_rfl) rfl (fun _=>?_) (fun h=>by cases h)
  refine q9x (qjg (s2:=⟨[(2,.rs 0)],[.rows Riii ([]:List Diii)]⟩) hm hT hC (by kernel_rfl:treg tysT (orc []) 8 (regO (qeu f89) 2) false [(2,.own Riii)] ⟨[(0,.fz Riii ([]:List Diii)),(4,.bool true)],[]⟩ some=some ⟨[(2,.rs 0)],[.rows Riii ([]:List Diii)]⟩) (q9j (q9w (q9l ?_))))
  exact (hend _ (by kernel_rfl)).2
 | false =>
  refine qa1 (v:=false) (A:=none) (B:=some ()) (r:=()) (by kernel_rfl) rfl (fun h=>by cases h) (fun _=>?_)
  refine q9t (q9j ?_)
  have hg:treg tysT (orc []) 8 (regO (qeu f89) 3) false [(2,.own Riii)] ⟨[(0,.fz Riii x.1.1),(4,.bool false)],[]⟩ some=some ⟨[(2,.rs 0)],[.rows Riii x.1.1]⟩:=by
   exact (show treg tysT (orc []) 8 (regO (qeu f89) 3) false [(2,.own Riii)] ⟨[(0,.fz Riii x.1.1),(4,.bool false)],[]⟩ some=(bif apB 0 (List.length x.1.1) then some ⟨[(2,.rs 0)],[.rows Riii x.1.1]⟩ else none) by kernel_rfl).trans (qjl hc)
  refine q9x (qjg hm hT hC hg (q9j (q9w ?_)))
  exact (hend _ (by kernel_rfl)).2
abbrev q12s:Type:=qiv×Unit
abbrev q12t:Type:=Int×Int×List Diii×Int×List Diii×List Di×List Db×List Di×List qim×List Di×List Diii
noncomputable def q12u (d:Nat):Ent:=⟨tysT,(orc [q12b (q12c d),q12i (q12j d),q12p (q12q d),q11c (q11d d),q11j (q11k d),q11x (q11y d)]),f34,mkPl [(1,(.box [.any,.any,.own Riii,.any,.own Riii,.val Ri,.val Rb,.val Ri,.own qil,.own Ri,.own Riii])),(2,(.box [.any,.any,.own Riii,.any,.own Riii,.own Ri,.own Rb,.own Ri,.own qil,.own Ri,.own Riii]))] [([0,1,2,4],[1,2]),([3],[1,2,3]),([5],[2])] [(0,[(1,(.box [.any,.any,.val Riii,.any,.val Riii,.val Ri,.val Rb,.val Ri,.val qil,.val Ri,.val Riii]))]),(1,[(1,(.box [.any,.any,.own Riii,.any,.own Riii,.val Ri,.val Rb,.val Ri,.val qil,.val Ri,.own Riii]))]),(4,[(1,(.box [.any,.any,.own Riii,.any,.own Riii,.own Ri,.own Rb,.own Ri,.own qil,.own Ri,.own Riii]))])] [],d,34,[.row qiu true],(.agg [.undef,.undef,.undef,.undef,.undef,.undef,.undef,.undef,.undef,.undef,.undef]),[.i .i64,.i .i64,.o Riii,.i .i64,.o Riii,.o Ri,.o Rb,.o Ri,.o qil,.o Ri,.o Riii]⟩
theorem q12v (d:Nat):COK prog (q12u d).s:=Ent.k mixed tys (qeo (ac1 (q12d d) (ac1 (q12k d) (ac1 (q12r d) (ac1 (q11e d) (ac1 (q11l d) (ac1 (q11z d) ac0))))))) ⟨by kernel_rfl,by kernel_rfl,by kernel_rfl⟩
noncomputable def q12w (d:Nat) (x:q12s):Option q12t:=(q12u d).F x
def q12x (d:Nat):q12s->Option q12t:=fun ((xAa,xAb,xAc,xAd,xAe,xAf,xAg,xAh,xAi,xAj,xAk,_),_) =>
 (obnd (q12c d ((xAc,()),())) fun r1=>(obnd (q12j d ((xAe,()),())) fun r2=>(obnd (q12q d ((xAk,()),())) fun r3=>(obnd (q11d d ((xAi,()),())) fun r4=>(obnd (q11k d ((xAj,()),())) fun r5=>(obnd (q11k d ((xAf,()),())) fun r6=>(obnd (q11y d ((xAg,()),())) fun r7=>(obnd (q11k d ((xAh,()),())) fun r8=>some (xAa,xAb,r1,xAd,r2,r6,r7,r8,r4,r5,r3)))))))))
theorem q12y (d:Nat) (x:q12s):q12w d x=q12x d x:=by kernel_rfl
end
noncomputable section
abbrev q12z:Type:=Int×Int×List Db
abbrev q130:Type:=Bool×Int×List Db
noncomputable def q131 (d:Nat):GEnt:=⟨tysT,(orc []),f162,mkPl [(2,(.box [.own Rb]))] [([0],[0,1,2]),([1],[0,1,2,17]),([2,4],[1,2,4]),([3],[1,2])] [] [],d,162,[1,2],2,(.tup [.tup [.undef,.ptr 0 0,.ptr 1 0],.tup [.agg [.undef],.agg [.rs 2],.undef]]),[.i .i64,.i .i64,.z Rb],(.tup [.undef,.tup [.agg [.undef],.agg [.rs 2],.undef]]),[.bo,.i .i64,.z Rb]⟩
theorem q132 (d:Nat):COKG prog (q131 d).s:=GEnt.k mixed tys (qeo ac0) ⟨by kernel_rfl,by kernel_rfl,by kernel_rfl⟩ (by kernel_rfl) fun r=>⟨by kernel_rfl,by kernel_rfl⟩
noncomputable def q133 (d:Nat) (x:q12z):Option q130:=(q131 d).F x
def q134 (d:Nat):(Int×Bool×Int×List Db)->Option q130:=fun (ya,yb,yc,yd) =>
 (bif yb then some (true,yc,yd) else (obif (inB ya yd.length) (some (false,yc,(List.set yd ya.toNat (true,())))) none))
def q135 (d:Nat):q12z->Option q130:=fun (xa,xb,xc) =>
 (obif (true&&(true&&true)) (obif (decide (xa<0)) (q134 d (xa,true,xb,xc)) (obif (decide (xa≥xb)) (q134 d (xa,true,xb,xc)) (obif (inB xa xc.length) (q134 d (xa,(elt zb xc xa.toNat).1,xb,xc)) none))) none)
theorem q136 (d:Nat) (x:q12z):q133 d x=q135 d x:=by kernel_rfl
abbrev q137:Type:=List Di×Int×List Db
abbrev q138:Type:=Int×Int×List Db
noncomputable def q139 (d:Nat):GEnt:=⟨tysT,(orcG (q131 d).s (orc [])),f207,mkPl [(0,(.val Ri))] [([0],[0,1]),([1,6],[0,1,7,8]),([2],[0,1,7,8,9]),([3],[0,1,5,7,8]),([4],[0,1,5,7,8,16]),([5,7],[1,4])] [] [(2,[0,1,7,8])],d,207,[1],2,(.tup [.tup [.undef,.fn 162 [.ptr 0 0,.ptr 1 0]],.tup [.agg [.undef],.agg [.rs 2],.undef]]),[.z Ri,.i .i64,.z Rb],(.tup [.undef,.tup [.agg [.undef],.agg [.rs 2],.undef]]),[.i .i64,.i .i64,.z Rb]⟩
theorem q13a (d:Nat):COKG prog (q139 d).s:=GEnt.k mixed tys (qh2 (q132 d) (qeo ac0)) ⟨by kernel_rfl,by kernel_rfl,by kernel_rfl⟩ (by kernel_rfl) fun r=>⟨by kernel_rfl,by kernel_rfl⟩
noncomputable def q13b (d:Nat) (x:q137):Option q138:=(q139 d).F x
abbrev q13c:Type:=List Di×Int×Int×Int×List Db
def q13d (d:Nat) (self1:q13c->Option q138):q13c->Option q138:=fun (x1a,x1b,x1c,x1d,x1e) =>
 (bif (decide (x1c<x1b)) then (obif (inB x1c x1a.length) (obnd (q133 d ((elt zi x1a x1c.toNat).1,x1d,x1e)) fun (r2a,r2b,r2c)=>(bif r2a then some (x1c,r2b,r2c) else (self1 (x1a,x1b,(wi (x1c+1)),r2b,r2c)))) none) else some ((-1:Int),x1d,x1e))
def q13e:q13c->St:=fun (x1a,x1b,x1c,x1d,x1e)=>⟨[(0,.fz Ri x1a),(1,.fn 162 [.ptr 0 0,.ptr 1 0]),(7,i6 x1b),(8,i6 x1c)],[.cells [i6 x1d],.cells [.rs 2],.rows Rb x1e]⟩
theorem q13f (d:Nat) (xx:q137) (self1:St->Option q138) (x:q13c):(q139 d).b xx 2 [] self1 (q13e x)=q13d d (fun y=>self1 (q13e y)) x:=by kernel_rfl
def q13g (d:Nat) (L1_g:q13c->Option q138):q137->Option q138:=fun (xa,xb,xc) =>
 (obif (true&&(true&&true)) (L1_g (xa,(xa.length:Int),0,xb,xc)) none)
theorem q13h (d:Nat) (x:q137):q13b d x=q13g d (iter (q13d d) d) x:=by
 have h:q13b d x=q13g d (fun y=>iter ((q139 d).b x 2 []) d (q13e y)) x:=by kernel_rfl
 rw[h];congr 1<;>(funext y;first | rfl | exact qfi (q13f d x) d y)
abbrev q13i:Type:=List Di×Int×List Db
abbrev q13j:Type:=Bool×Int×List Db
noncomputable def q13k (d:Nat):GEnt:=⟨tysT,(orcG (q139 d).s (orc [])),f161,mkPl [(0,(.val Ri))] [([0],[0,1]),([1],[1,4])] [] [],d,161,[1],2,(.tup [.tup [.undef,.fn 162 [.ptr 0 0,.ptr 1 0]],.tup [.agg [.undef],.agg [.rs 2],.undef]]),[.z Ri,.i .i64,.z Rb],(.tup [.undef,.tup [.agg [.undef],.agg [.rs 2],.undef]]),[.bo,.i .i64,.z Rb]⟩
theorem q13l (d:Nat):COKG prog (q13k d).s:=GEnt.k mixed tys (qh2 (q13a d) (qeo ac0)) ⟨by kernel_rfl,by kernel_rfl,by kernel_rfl⟩ (by kernel_rfl) fun r=>⟨by kernel_rfl,by kernel_rfl⟩
noncomputable def q13m (d:Nat) (x:q13i):Option q13j:=(q13k d).F x
def q13n (d:Nat):q13i->Option q13j:=fun (xa,xb,xc) =>
 (obif (true&&(true&&true)) (obnd (q13b d (xa,xb,xc)) fun (r1a,r1b,r1c)=>(some ((decide (r1a≥0)),r1b,r1c))) none)
theorem q13o (d:Nat) (x:q13i):q13m d x=q13n d x:=by kernel_rfl
abbrev q13p:Type:=DLbE×Db×Unit
abbrev q13q:Type:=Int
noncomputable def q13r (d:Nat):Ent:=⟨tysT,(orc []),f208,mkPl [(0,(.val Rb))] [([0],[0,1]),([1,6],[0,1,7,8]),([2],[0,1,7,8,9]),([3],[0,1,5,7,8]),([4],[0,1,5,7,8,16]),([5,7],[4])] [] [(2,[0,1,7,8])],d,208,[.row RLbE false,.row Rb false],.undef,[.i .i64]⟩
theorem q13s (d:Nat):COK prog (q13r d).s:=Ent.k mixed tys (qeo ac0) ⟨by kernel_rfl,by kernel_rfl,by kernel_rfl⟩
noncomputable def q13t (d:Nat) (x:q13p):Option q13q:=(q13r d).F x
abbrev q13u:Type:=List Db×Bool×Int×Int
def q13v (d:Nat) (self1:q13u->Option q13q):q13u->Option q13q:=fun (x1a,x1b,x1c,x1d) =>
 (bif (decide (x1d<x1c)) then (obif (inB x1d x1a.length) (bif (x1b==(elt zb x1a x1d.toNat).1) then some x1d else (self1 (x1a,x1b,x1c,(wi (x1d+1))))) none) else some (-1:Int))
def q13w:q13u->St:=fun (x1a,x1b,x1c,x1d)=>⟨[(0,.fz Rb x1a),(1,.bool x1b),(7,i6 x1c),(8,i6 x1d)],[]⟩
theorem q13x (d:Nat) (self1:St->Option q13q) (x:q13u):(q13r d).b 2 [] self1 (q13w x)=q13v d (fun y=>self1 (q13w y)) x:=by kernel_rfl
def q13y (d:Nat) (L1_g:q13u->Option q13q):q13p->Option q13q:=fun ((xAa,_),(xBa,_),_) =>
 (L1_g (xAa,xBa,(xAa.length:Int),0))
theorem q13z (d:Nat) (x:q13p):q13t d x=q13y d (iter (q13v d) d) x:=by
 have h:q13t d x=q13y d (fun y=>iter ((q13r d).b 2 []) d (q13w y)) x:=by kernel_rfl
 rw[h];congr 1<;>(funext y;first | rfl | exact qfi (q13x d) d y)
abbrev q140:Type:=DLbE×Db×Unit
abbrev q141:Type:=Bool
noncomputable def q142 (d:Nat):Ent:=⟨tysT,(orc [(q13r d).s]),f163,mkPl [(0,(.val Rb))] [([0],[0,1]),([1],[4])] [] [],d,163,[.row RLbE false,.row Rb false],.undef,[.bo]⟩
theorem q143 (d:Nat):COK prog (q142 d).s:=Ent.k mixed tys (qeo (ac1 (q13s d) ac0)) ⟨by kernel_rfl,by kernel_rfl,by kernel_rfl⟩
noncomputable def q144 (d:Nat) (x:q140):Option q141:=(q142 d).F x
def q145 (d:Nat):q140->Option q141:=fun ((xAa,_),(xBa,_),_) =>
 (obnd (q13t d ((xAa,()),(xBa,()),())) fun r1=>(some (decide (r1≥0))))
theorem q146 (d:Nat) (x:q140):q144 d x=q145 d x:=by kernel_rfl
abbrev q147:Type:=qij×Unit
abbrev q148:Type:=Int
noncomputable def q149 (d:Nat):Ent:=⟨tysT,(orcG (q13k d).s (orc [q11x (q11y d),(q142 d).s])),f111,mkPl [(1,(.box [.val Ri,.val Rb,.val Ri])),(4,(.box [.own Rb])),(37,(.val Ri))] [([0],[1]),([1],[1,3]),([2],[1,3,23]),([4],[1,3,4]),([5],[1,4,5]),([6],[1,35]),([8,13],[1,37,38,39]),([9],[1,37,38,39,40]),([10],[1,6,7,37,38,39]),([11],[1,37,38,39,60]),([14],[2])] [] [(9,[1,37,38,39])],d,111,[.row qii true],.undef,[.i .i64]⟩
theorem q14a (d:Nat):COK prog (q149 d).s:=Ent.k mixed tys (qh2 (q13l d) (qeo (ac1 (q11z d) (ac1 (q143 d) ac0)))) ⟨by kernel_rfl,by kernel_rfl,by kernel_rfl⟩
noncomputable def q14b (d:Nat) (x:q147):Option q148:=(q149 d).F x
abbrev q14c:Type:=List Di×Int×Int×List Di×List Db×List Di
def q14d (d:Nat) (self1:q14c->Option q148):(List Di×Int×Int×Bool×List Di×List Db×List Di)->Option q148:=fun (ya,yb,yc,yd,ye,yf,yg) =>
 (bif yd then none else (self1 (ya,yb,(wi (yc+1)),ye,yf,yg)))
def q14e (d:Nat) (self1:q14c->Option q148):q14c->Option q148:=fun (x1a,x1b,x1c,x1d,x1e,x1f) =>
 (bif (decide (x1c<x1b)) then (obif (inB x1c x1a.length) (let e3:=(elt zi x1a x1c.toNat);(obif (decide (e3.1<0)) (q14d d self1 (x1a,x1b,x1c,true,x1d,x1e,x1f)) (obif (decide (e3.1>1000000)) (q14d d self1 (x1a,x1b,x1c,true,x1d,x1e,x1f)) (obif (e3.1==0) (obif (inB x1c x1e.length) (q14d d self1 (x1a,x1b,x1c,(elt zb x1e x1c.toNat).1,x1d,x1e,x1f)) none) (q14d d self1 (x1a,x1b,x1c,false,x1d,x1e,x1f)))))) none) else some 0)
def q14f:q14c->St:=fun (x1a,x1b,x1c,x1d,x1e,x1f)=>⟨[(1,.ptr 0 0),(37,.fz Ri x1a),(38,i6 x1b),(39,i6 x1c)],[.cells [.fz Ri x1d,.fz Rb x1e,.fz Ri x1f]]⟩
def q14g (d:Nat) (L1_g:q14c->Option q148):(Bool×List Di×List Db×List Di)->Option q148:=fun (ya,yb,yc,yd) =>
 (bif ya then none else (L1_g (yb,(yb.length:Int),0,yb,yc,yd)))
def q14h (d:Nat) (L1_g:q14c->Option q148):(Bool×List Di×List Db×List Di×Int)->Option q148:=fun (ya,yb,yc,yd,ye) =>
 (bif ya then none else (obnd (q11y d ((yc,()),())) fun r1=>(obnd (q13m d (yd,ye,r1)) fun (r2a,_,r2c)=>(obif r2a (q14g d L1_g (true,yb,yc,yd)) (obnd (q144 d ((r2c,()),(false,()),())) fun r3=>(q14g d L1_g (r3,yb,yc,yd)))))))
theorem q14i (d:Nat) (self1:St->Option q148) (x:q14c):(q149 d).b 9 [] self1 (q14f x)=q14e d (fun y=>self1 (q14f y)) x:=by kernel_rfl
def q14j (d:Nat) (L1_g:q14c->Option q148):q147->Option q148:=fun ((xAa,xAb,xAc,_),_) =>
 (let a1:=(xAa.length:Int);(obif (decide (a1<1)) (q14h d L1_g (true,xAa,xAb,xAc,a1)) (obif (decide (a1>200)) (q14h d L1_g (true,xAa,xAb,xAc,a1)) (q14h d L1_g (((xAb.length:Int) != a1),xAa,xAb,xAc,a1)))))
theorem q14k (d:Nat) (x:q147):q14b d x=q14j d (iter (q14e d) d) x:=by
 have h:q14b d x=q14j d (fun y=>iter ((q149 d).b 9 []) d (q14f y)) x:=by kernel_rfl
 rw[h];congr 1<;>(funext y;first | rfl | exact qfi (q14i d) d y)
abbrev q14l:List Pk:=[.row RLiE false]
abbrev q14m:Type:=DLiE×Unit
abbrev q14n:Type:=List Di
def q14o (r:q14n):LV×List Ob:=(.rs 0,[.rows Ri r])
def q14p (F:q14m->Option q14n):Go.Tx.Spec:=⟨198,q14l,q14n,F,q14o⟩
def q14q (_d:Nat) (x:q14m):Option q14n:=bif apB 0 (List.length x.1.1) then some x.1.1 else none
theorem q14r (d:Nat):COK prog (q14p (q14q d)):=by
 have hm:prog.follows .mixedOrders=true:=mixed
 have hT:=tys
 have hC:OrcOK prog (orc []):=qeo (fun S hS=>by cases hS)
 refine qad (c:=qeu f198) (fn:=f198) hT (by kernel_rfl) (by kernel_rfl) (by decide) fun x r h w0 φ0 Q hend=>?_
 replace h:q14q d x=some r:=h
 unfold q14q at h
 obtain⟨hc,h⟩:=qev h
 injection h with h;subst h
 show Run prog w0 φ0 8 (qeu f198) ⟨[(0,.fz Ri x.1.1)],[]⟩ Q
 refine q9x (qjg (s2:=⟨[(0,.fz Ri x.1.1)],[]⟩) hm hT hC (by kernel_rfl:treg tysT (orc []) 8 (regO (qeu f198) 0) false [(0,.any)] ⟨[(0,.fz Ri x.1.1)],[]⟩ some=some ⟨[(0,.fz Ri x.1.1)],[]⟩) (q9j ?_))
 refine q9x (q9x (qjm (ops:=regO (qeu f198) 1) (src:=0) (t1:=3) (t2:=4) (e:=3) rfl rfl rfl rfl rfl rfl rfl rfl rfl (by kernel_rfl) fun b hb=>q9j ?_))
 cases b with
 | true =>
  obtain⟨l,u⟩:=x
  obtain⟨l,u2⟩:=l
  have hl:l=[]:=hb rfl
  subst hl
  refine qa1 (v:=true) (A:=some ()) (B:=none) (r:=()) (by kernel_rfl) rfl (fun _=>?_) (fun h=>by cases h)
  refine q9x (qjg (s2:=⟨[(2,.rs 0)],[.rows Ri ([]:List Di)]⟩) hm hT hC (by kernel_rfl:treg tysT (orc []) 8 (regO (qeu f198) 2) false [(2,.own Ri)] ⟨[(0,.fz Ri ([]:List Di)),(4,.bool true)],[]⟩ some=some ⟨[(2,.rs 0)],[.rows Ri ([]:List Di)]⟩) (q9j (q9w (q9l ?_))))
  exact (hend _ (by kernel_rfl)).2
 | false =>
  refine qa1 (v:=false) (A:=none) (B:=some ()) (r:=()) (by kernel_rfl) rfl (fun h=>by cases h) (fun _=>?_)
  refine q9t (q9j ?_)
  have hg:treg tysT (orc []) 8 (regO (qeu f198) 3) false [(2,.own Ri)] ⟨[(0,.fz Ri x.1.1),(4,.bool false)],[]⟩ some=some ⟨[(2,.rs 0)],[.rows Ri x.1.1]⟩:=by
   exact (show treg tysT (orc []) 8 (regO (qeu f198) 3) false [(2,.own Ri)] ⟨[(0,.fz Ri x.1.1),(4,.bool false)],[]⟩ some=(bif apB 0 (List.length x.1.1) then some ⟨[(2,.rs 0)],[.rows Ri x.1.1]⟩ else none) by kernel_rfl).trans (qjl hc)
  refine q9x (qjg hm hT hC hg (q9j (q9w ?_)))
  exact (hend _ (by kernel_rfl)).2
abbrev q14s:Type:=DLiE×Unit
abbrev q14t:Type:=List Di×Int
noncomputable def q14u (d:Nat):Ent:=⟨tysT,(orc [q14p (q14q d)]),f152,mkPl [(0,(.val Ri)),(2,(.own Ri))] [([0],[0]),([1],[0,4]),([2],[2,3])] [] [],d,152,[.row RLiE false],(.tup [.undef,.undef]),[.o Ri,.i .i64]⟩
theorem q14v (d:Nat):COK prog (q14u d).s:=Ent.k mixed tys (qeo (ac1 (q14r d) ac0)) ⟨by kernel_rfl,by kernel_rfl,by kernel_rfl⟩
noncomputable def q14w (d:Nat) (x:q14s):Option q14t:=(q14u d).F x
def q14x (d:Nat):q14s->Option q14t:=fun ((xAa,_),_) =>
 (let e1:=(wi ((xAa.length:Int)-1));(obif (decide (0<=e1)&&decide (e1<=(xAa.length:Int))) (obnd (q14q d (((List.take e1.toNat xAa),()),())) fun r2=>(obif (inB e1 xAa.length) (some (r2,(elt zi xAa e1.toNat).1)) none)) none))
theorem q14y (d:Nat) (x:q14s):q14w d x=q14x d x:=by kernel_rfl
abbrev q14z:Type:=qij×Unit
abbrev q150:Type:=List Di×List Db×List Di×Int×Int×Int
noncomputable def q151 (d:Nat):Ent:=⟨tysT,(orc [(q149 d).s,(q14u d).s,(q122 d).s]),f96,mkPl [(1,(.box [.val Ri,.val Rb,.val Ri])),(2,(.box [.val Ri,.val Rb,.val Ri])),(6,(.own Ri)),(8,(.box [.own Ri,.own Rb,.own Ri]))] [([0],[1,2,3]),([1],[1,2,3,5]),([2],[1,2,3,12]),([4],[1,2,3,19]),([6],[1,2,3,6,7]),([7],[1,2,3,6,7,33]),([9],[2,3,6,7,8]),([10,11],[2,3,7,8]),([12],[2,3,4])] [(9,[(8,(.box [.own Ri,.own Rb,.val Ri]))])] [],d,96,[.row qii true],(.tup [(.agg [.undef,.undef,.undef]),(.agg [.undef,.undef]),.undef]),[.z Ri,.z Rb,.z Ri,.i .i64,.i .i64,.i .i64]⟩
theorem q152 (d:Nat):COK prog (q151 d).s:=Ent.k mixed tys (qeo (ac1 (q14a d) (ac1 (q14v d) (ac1 (q123 d) ac0)))) ⟨by kernel_rfl,by kernel_rfl,by kernel_rfl⟩
noncomputable def q153 (d:Nat) (x:q14z):Option q150:=(q151 d).F x
def q154 (d:Nat):q14z->Option q150:=fun ((xAa,xAb,xAc,_),_) =>
 (obnd (q14b d ((xAa,xAb,xAc,()),())) fun r1=>(bif (r1 != 0) then none else (bif ((xAc.length:Int)==0) then none else (obnd (q14w d ((xAc,()),())) fun (r2a,r2b)=>(obif (inB r2b xAa.length) (bif ((elt zi xAa r2b.toNat).1==1000000) then none else (obnd (q124 d ((xAa,xAb,xAc,()),())) fun (r4a,r4b,_)=>(obif (inB r2b r4b.length) (obif (inB r2b r4a.length) (obif (inB r2b r4a.length) (let a8:=(List.set r4a r2b.toNat ((wi ((elt zi r4a r2b.toNat).1+1)),()));(obif (inB r2b a8.length) (some (a8,(List.set r4b r2b.toNat (true,())),r2a,r2b,(elt zi a8 r2b.toNat).1,0)) none)) none) none) none))) none)))))
theorem q155 (d:Nat) (x:q14z):q153 d x=q154 d x:=by kernel_rfl
abbrev q156:Type:=qij×Dii×Unit
abbrev q157:Type:=Bool×Int
noncomputable def q158 (d:Nat):Ent:=⟨tysT,(orc [(q149 d).s]),f227,mkPl [(2,(.box [.val Ri,.val Rb,.val Ri]))] [([0],[2,3]),([1],[2,3,6]),([2],[2,3,10]),([4],[4,5])] [] [],d,227,[.row qii true,.row Rii true],(.tup [.undef,.undef]),[.bo,.i .i64]⟩
theorem q159 (d:Nat):COK prog (q158 d).s:=Ent.k mixed tys (qeo (ac1 (q14a d) ac0)) ⟨by kernel_rfl,by kernel_rfl,by kernel_rfl⟩
noncomputable def q15a (d:Nat) (x:q156):Option q157:=(q158 d).F x
def q15b (d:Nat):q156->Option q157:=fun ((xAa,xAb,xAc,_),(xBa,xBb,_),_) =>
 (obnd (q14b d ((xAa,xAb,xAc,()),())) fun r1=>(bif (r1 != 0) then none else (obif (decide (xBa≥0)) (obif (decide (xBa<(xAb.length:Int))) (obif (inB xBa xAb.length) (obif (elt zb xAb xBa.toNat).1 (obif (inB xBa xAa.length) (some (((elt zi xAa xBa.toNat).1==xBb),0)) none) (some (false,0))) none) (some (false,0))) (some (false,0)))))
theorem q15c (d:Nat) (x:q156):q15a d x=q15b d x:=by kernel_rfl
abbrev q15d:Type:=DLiE×Di×Unit
abbrev q15e:Type:=List Di
noncomputable def q15f (d:Nat):Ent:=⟨tysT,(orc [q14p (q14q d)]),f240,mkPl [(0,(.val Ri)),(4,(.own Ri))] [([0],[0,1]),([1],[4])] [] [],d,240,[.row RLiE false,.row Ri false],.undef,[.o Ri]⟩
theorem q15g (d:Nat):COK prog (q15f d).s:=Ent.k mixed tys (qeo (ac1 (q14r d) ac0)) ⟨by kernel_rfl,by kernel_rfl,by kernel_rfl⟩
noncomputable def q15h (d:Nat) (x:q15d):Option q15e:=(q15f d).F x
def q15i (d:Nat):q15d->Option q15e:=fun ((xAa,_),(xBa,_),_) =>
 (obnd (q14q d ((xAa,()),())) fun r1=>(obif (apB r1.length (List.length ([(xBa,())]:List Di))) (some (r1++([(xBa,())]:List Di))) none))
theorem q15j (d:Nat) (x:q15d):q15h d x=q15i d x:=by kernel_rfl
abbrev q15k:Type:=qij×Dii×Unit
abbrev q15l:Type:=List Di×List Db×List Di×Int
noncomputable def q15m (d:Nat):Ent:=⟨tysT,(orc [(q122 d).s,(q158 d).s,(q15f d).s]),f228,mkPl [(2,(.box [.val Ri,.val Rb,.val Ri])),(4,(.box [.val Ri,.val Rb,.val Ri])),(8,(.box [.own Ri,.own Rb,.val Ri]))] [([0],[2,3,4]),([1],[2,3,4,6,7]),([2],[2,3,4,6,16]),([4],[2,3,4,20]),([6],[2,3,4,8]),([7],[4,8]),([8],[4,5])] [(7,[(8,(.box [.own Ri,.own Rb,.own Ri]))])] [],d,228,[.row qii true,.row Rii true],(.tup [(.agg [.undef,.undef,.undef]),.undef]),[.z Ri,.z Rb,.z Ri,.i .i64]⟩
theorem q15n (d:Nat):COK prog (q15m d).s:=Ent.k mixed tys (qeo (ac1 (q123 d) (ac1 (q159 d) (ac1 (q15g d) ac0)))) ⟨by kernel_rfl,by kernel_rfl,by kernel_rfl⟩
noncomputable def q15o (d:Nat) (x:q15k):Option q15l:=(q15m d).F x
def q15p (d:Nat):q15k->Option q15l:=fun ((xAa,xAb,xAc,_),(xBa,xBb,_),_) =>
 (obnd (q15a d ((xAa,xAb,xAc,()),(xBa,xBb,()),())) fun (r1a,r1b)=>(bif (r1b != 0) then none else (bif (!r1a) then none else (obnd (q124 d ((xAa,xAb,xAc,()),())) fun (r2a,r2b,_)=>(obnd (q15h d ((xAc,()),(xBa,()),())) fun r3=>(obif (inB xBa r2b.length) (some (r2a,(List.set r2b xBa.toNat (false,())),r3,0)) none))))))
theorem q15q (d:Nat) (x:q15k):q15o d x=q15p d x:=by kernel_rfl
abbrev q15r:Type:=qij×Unit
abbrev q15s:Type:=Int×Int
noncomputable def q15t (d:Nat):Ent:=⟨tysT,(orc [(q149 d).s]),f48,mkPl [(1,(.box [.val Ri,.val Rb,.val Ri]))] [([0],[1]),([1],[1,4]),([2],[1,8]),([4],[2,3])] [] [],d,48,[.row qii true],(.tup [.undef,.undef]),[.i .i64,.i .i64]⟩
theorem q15u (d:Nat):COK prog (q15t d).s:=Ent.k mixed tys (qeo (ac1 (q14a d) ac0)) ⟨by kernel_rfl,by kernel_rfl,by kernel_rfl⟩
noncomputable def q15v (d:Nat) (x:q15r):Option q15s:=(q15t d).F x
def q15w (d:Nat):q15r->Option q15s:=fun ((xAa,xAb,xAc,_),_) =>
 (obnd (q14b d ((xAa,xAb,xAc,()),())) fun r1=>(bif (r1 != 0) then none else (some ((xAc.length:Int),0))))
theorem q15x (d:Nat) (x:q15r):q15v d x=q15w d x:=by kernel_rfl
abbrev q15y:Type:=Dii×Dii×Unit
abbrev q15z:Type:=Int
noncomputable def q160 (d:Nat):Ent:=⟨tysT,(orc [qsy (qt0 d)]),f129,mkPl [] [([0],[2,3]),([1],[4])] [] [],d,129,[.row Rii true,.row Rii true],.undef,[.i .i64]⟩
theorem q161 (d:Nat):COK prog (q160 d).s:=Ent.k mixed tys (qeo (ac1 (qt2 d) ac0)) ⟨by kernel_rfl,by kernel_rfl,by kernel_rfl⟩
noncomputable def q162 (d:Nat) (x:q15y):Option q15z:=(q160 d).F x
def q163 (d:Nat):q15y->Option q15z:=fun ((xAa,xAb,_),(xBa,xBb,_),_) =>
 (obnd (qt0 d ((xAa,xAb,()),())) fun r1=>(obnd (qt0 d ((xBa,xBb,()),())) fun r2=>(some (tmax r1 r2))))
theorem q164 (d:Nat) (x:q15y):q162 d x=q163 d x:=by kernel_rfl
abbrev q165:Type:=Di×Unit
abbrev q166:Type:=Bool
noncomputable def q167 (d:Nat):Ent:=⟨tysT,(orc []),f173,mkPl [] [([0],[0]),([1],[2])] [] [],d,173,[.row Ri false],.undef,[.bo]⟩
theorem q168 (d:Nat):COK prog (q167 d).s:=Ent.k mixed tys (qeo ac0) ⟨by kernel_rfl,by kernel_rfl,by kernel_rfl⟩
noncomputable def q169 (d:Nat) (x:q165):Option q166:=(q167 d).F x
def q16a (d:Nat):q165->Option q166:=fun ((xAa,_),_) =>
 (some (xAa != xAa))
theorem q16b (d:Nat) (x:q165):q169 d x=q16a d x:=by kernel_rfl
abbrev q16c:Type:=Di×Di×Unit
abbrev q16d:Type:=Int
noncomputable def q16e (d:Nat):Ent:=⟨tysT,(orc [(q167 d).s]),f130,mkPl [] [([0],[0,1]),([1],[0,1,5]),([2],[0,1,5,6]),([3],[0,1,6,11]),([4],[12]),([5,6,8,10,12,13],[4]),([7],[0,1,13]),([9],[0,1,16]),([11],[19])] [] [],d,130,[.row Ri false,.row Ri false],.undef,[.i .i64]⟩
theorem q16f (d:Nat):COK prog (q16e d).s:=Ent.k mixed tys (qeo (ac1 (q168 d) ac0)) ⟨by kernel_rfl,by kernel_rfl,by kernel_rfl⟩
noncomputable def q16g (d:Nat) (x:q16c):Option q16d:=(q16e d).F x
def q16h (d:Nat):q16c->Option q16d:=fun ((xAa,_),(xBa,_),_) =>
 (obnd (q169 d ((xAa,()),())) fun r1=>(obnd (q169 d ((xBa,()),())) fun r2=>(bif r1 then (bif r2 then some 0 else some (-1:Int)) else (bif r2 then some 1 else (bif (decide (xAa<xBa)) then some (-1:Int) else (bif (decide (xAa>xBa)) then some 1 else some 0))))))
theorem q16i (d:Nat) (x:q16c):q16g d x=q16h d x:=by kernel_rfl
abbrev q16j:Type:=Di×Unit
abbrev q16k:Type:=Int
noncomputable def q16l (d:Nat):Ent:=⟨tysT,(orc []),f77,mkPl [] [([0],[0]),([1],[0,4]),([2,3],[2])] [] [],d,77,[.row Ri false],.undef,[.i .u64]⟩
theorem q16m (d:Nat):COK prog (q16l d).s:=Ent.k mixed tys (qeo ac0) ⟨by kernel_rfl,by kernel_rfl,by kernel_rfl⟩
noncomputable def q16n (d:Nat) (x:q16j):Option q16k:=(q16l d).F x
def q16o (d:Nat):q16j->Option q16k:=fun ((xAa,_),_) =>
 (bif (decide (xAa<0)) then (some (IntKind.wrap .u64 (0-(IntKind.wrap .u64 xAa)))) else (some (IntKind.wrap .u64 xAa)))
theorem q16p (d:Nat) (x:q16j):q16n d x=q16o d x:=by kernel_rfl
abbrev q16q:Type:=Di×Di×Unit
abbrev q16r:Type:=Bool×Int×Int
noncomputable def q16s (d:Nat):Ent:=⟨tysT,(orc [(q16l d).s,qsg (qsi d)]),f132,mkPl [] [([0],[0,1,4]),([1],[0,1,4,5,6]),([2],[4])] [] [],d,132,[.row Ri false,.row Ri false],(.agg [.undef,.undef,.undef]),[.bo,.i .u64,.i .u64]⟩
theorem q16t (d:Nat):COK prog (q16s d).s:=Ent.k mixed tys (qeo (ac1 (q16m d) (ac1 (qsk d) ac0))) ⟨by kernel_rfl,by kernel_rfl,by kernel_rfl⟩
noncomputable def q16u (d:Nat) (x:q16q):Option q16r:=(q16s d).F x
def q16v (d:Nat):q16q->Option q16r:=fun ((xAa,_),(xBa,_),_) =>
 (obnd (q16n d ((xAa,()),())) fun r1=>(obnd (q16n d ((xBa,()),())) fun r2=>(obnd (qsi d ((r1,()),(r2,()),())) fun (r3a,r3b)=>(some ((!((decide (xAa<0))==(decide (xBa<0)))),r3a,r3b)))))
theorem q16w (d:Nat) (x:q16q):q16u d x=q16v d x:=by kernel_rfl
abbrev q16x:Type:=Du×Unit
abbrev q16y:Type:=Bool
noncomputable def q16z (d:Nat):Ent:=⟨tysT,(orc []),f212,mkPl [] [([0],[0]),([1],[2])] [] [],d,212,[.row Ru false],.undef,[.bo]⟩
theorem q170 (d:Nat):COK prog (q16z d).s:=Ent.k mixed tys (qeo ac0) ⟨by kernel_rfl,by kernel_rfl,by kernel_rfl⟩
noncomputable def q171 (d:Nat) (x:q16x):Option q16y:=(q16z d).F x
def q172 (d:Nat):q16x->Option q16y:=fun ((xAa,_),_) =>
 (some (xAa != xAa))
theorem q173 (d:Nat) (x:q16x):q171 d x=q172 d x:=by kernel_rfl
abbrev q174:Type:=Du×Du×Unit
abbrev q175:Type:=Int
noncomputable def q176 (d:Nat):Ent:=⟨tysT,(orc [(q16z d).s]),f174,mkPl [] [([0],[0,1]),([1],[0,1,5]),([2],[0,1,5,6]),([3],[0,1,6,11]),([4],[12]),([5,6,8,10,12,13],[4]),([7],[0,1,13]),([9],[0,1,16]),([11],[19])] [] [],d,174,[.row Ru false,.row Ru false],.undef,[.i .i64]⟩
theorem q177 (d:Nat):COK prog (q176 d).s:=Ent.k mixed tys (qeo (ac1 (q170 d) ac0)) ⟨by kernel_rfl,by kernel_rfl,by kernel_rfl⟩
noncomputable def q178 (d:Nat) (x:q174):Option q175:=(q176 d).F x
def q179 (d:Nat):q174->Option q175:=fun ((xAa,_),(xBa,_),_) =>
 (obnd (q171 d ((xAa,()),())) fun r1=>(obnd (q171 d ((xBa,()),())) fun r2=>(bif r1 then (bif r2 then some 0 else some (-1:Int)) else (bif r2 then some 1 else (bif (decide (xAa<xBa)) then some (-1:Int) else (bif (decide (xAa>xBa)) then some 1 else some 0))))))
theorem q17a (d:Nat) (x:q174):q178 d x=q179 d x:=by kernel_rfl
abbrev q17b:Type:=Dbuu×Dbuu×Unit
abbrev q17c:Type:=Int
noncomputable def q17d (d:Nat):Ent:=⟨tysT,(orc [(q176 d).s]),f131,mkPl [] [([0],[2,3]),([1],[2,3,5]),([2],[2,3,5,12]),([3,4],[4])] [] [],d,131,[.row Rbuu true,.row Rbuu true],.undef,[.i .i64]⟩
theorem q17e (d:Nat):COK prog (q17d d).s:=Ent.k mixed tys (qeo (ac1 (q177 d) ac0)) ⟨by kernel_rfl,by kernel_rfl,by kernel_rfl⟩
noncomputable def q17f (d:Nat) (x:q17b):Option q17c:=(q17d d).F x
def q17g (d:Nat):q17b->Option q17c:=fun ((_,xAb,xAc,_),(_,xBb,xBc,_),_) =>
 (obnd (q178 d ((xAb,()),(xBb,()),())) fun r1=>(bif (r1 != 0) then some r1 else (obnd (q178 d ((xAc,()),(xBc,()),())) fun r2=>some r2)))
theorem q17h (d:Nat) (x:q17b):q17f d x=q17g d x:=by kernel_rfl
abbrev q17i:Type:=Dii×Dii×Unit
abbrev q17j:Type:=Int×Int
noncomputable def q17k (d:Nat):Ent:=⟨tysT,(orc [(q160 d).s,(q16e d).s,(q17d d).s,(q16s d).s]),f65,mkPl [] [([0],[2,3]),([1],[2,3,6]),([2],[2,3,12]),([4],[2,3,20]),([5,9],[4,5]),([6],[2,7]),([7],[7,39]),([8],[7])] [] [],d,65,[.row Rii true,.row Rii true],(.tup [.undef,.undef]),[.i .i64,.i .i64]⟩
theorem q17l (d:Nat):COK prog (q17k d).s:=Ent.k mixed tys (qeo (ac1 (q161 d) (ac1 (q16f d) (ac1 (q17e d) (ac1 (q16t d) ac0))))) ⟨by kernel_rfl,by kernel_rfl,by kernel_rfl⟩
noncomputable def q17m (d:Nat) (x:q17i):Option q17j:=(q17k d).F x
def q17n (d:Nat):Int->Option q17j:=fun y =>
 some (y,0)
def q17o (d:Nat):q17i->Option q17j:=fun ((xAa,xAb,_),(xBa,xBb,_),_) =>
 (obnd (q162 d ((xAa,xAb,()),(xBa,xBb,()),())) fun r1=>(bif (r1 != 0) then none else (bif (!((decide (xAa<0))==(decide (xBa<0)))) then (obnd (q16g d ((xAa,()),(xBa,()),())) fun r2=>some (r2,0)) else (obnd (q16u d ((xAa,()),(xBb,()),())) fun (r2a,r2b,r2c)=>(obnd (q16u d ((xBa,()),(xAb,()),())) fun (r3a,r3b,r3c)=>(obnd (q17f d ((r2a,r2b,r2c,()),(r3a,r3b,r3c,()),())) fun r4=>(bif (decide (xAa<0)) then (q17n d (wi (0-r4))) else (q17n d r4))))))))
theorem q17p (d:Nat) (x:q17i):q17m d x=q17o d x:=by kernel_rfl
abbrev q17q:Type:=Di×Unit
abbrev q17r:Type:=Bool
noncomputable def q17s (d:Nat):Ent:=⟨tysT,(orc []),f149,mkPl [] [([0],[0]),([1],[2])] [] [],d,149,[.row Ri false],.undef,[.bo]⟩
theorem q17t (d:Nat):COK prog (q17s d).s:=Ent.k mixed tys (qeo ac0) ⟨by kernel_rfl,by kernel_rfl,by kernel_rfl⟩
noncomputable def q17u (d:Nat) (x:q17q):Option q17r:=(q17s d).F x
def q17v (d:Nat):q17q->Option q17r:=fun ((xAa,_),_) =>
 (some (xAa != xAa))
theorem q17w (d:Nat) (x:q17q):q17u d x=q17v d x:=by kernel_rfl
abbrev q17x:Type:=Di×Di×Unit
abbrev q17y:Type:=Int
noncomputable def q17z (d:Nat):Ent:=⟨tysT,(orc [(q17s d).s]),f88,mkPl [] [([0],[0,1]),([1],[0,1,5]),([2],[0,1,5,6]),([3],[0,1,6,11]),([4],[12]),([5,6,8,10,12,13],[4]),([7],[0,1,13]),([9],[0,1,16]),([11],[19])] [] [],d,88,[.row Ri false,.row Ri false],.undef,[.i .i64]⟩
theorem q180 (d:Nat):COK prog (q17z d).s:=Ent.k mixed tys (qeo (ac1 (q17t d) ac0)) ⟨by kernel_rfl,by kernel_rfl,by kernel_rfl⟩
noncomputable def q181 (d:Nat) (x:q17x):Option q17y:=(q17z d).F x
def q182 (d:Nat):q17x->Option q17y:=fun ((xAa,_),(xBa,_),_) =>
 (obnd (q17u d ((xAa,()),())) fun r1=>(obnd (q17u d ((xBa,()),())) fun r2=>(bif r1 then (bif r2 then some 0 else some (-1:Int)) else (bif r2 then some 1 else (bif (decide (xAa<xBa)) then some (-1:Int) else (bif (decide (xAa>xBa)) then some 1 else some 0))))))
theorem q183 (d:Nat) (x:q17x):q181 d x=q182 d x:=by kernel_rfl
abbrev q184:Type:=DLiE×Unit
abbrev q185:Type:=Int
noncomputable def q186 (d:Nat):Ent:=⟨tysT,(orc []),f195,mkPl [(0,(.val Ri)),(6,(.val Ri))] [([0],[0]),([1],[0,3]),([2,7],[3,6,7,8]),([3],[3,6,7,8,9]),([4],[3,5,6,7,8]),([5],[3,5,6,7,8,14]),([6,8],[2])] [] [(3,[3,6,7,8])],d,195,[.row RLiE false],.undef,[.i .i64]⟩
theorem q187 (d:Nat):COK prog (q186 d).s:=Ent.k mixed tys (qeo ac0) ⟨by kernel_rfl,by kernel_rfl,by kernel_rfl⟩
noncomputable def q188 (d:Nat) (x:q184):Option q185:=(q186 d).F x
abbrev q189:Type:=Int×List Di×Int×Int
def q18a (d:Nat) (self1:q189->Option q185):q189->Option q185:=fun (x1a,x1b,x1c,x1d) =>
 (bif (decide (x1d<x1c)) then (obif (inB x1d x1b.length) (let e1:=(elt zi x1b x1d.toNat);(bif (e1.1 != x1a) then some e1.1 else (self1 (x1a,x1b,x1c,(wi (x1d+1)))))) none) else some x1a)
def q18b:q189->St:=fun (x1a,x1b,x1c,x1d)=>⟨[(3,i6 x1a),(6,.fz Ri x1b),(7,i6 x1c),(8,i6 x1d)],[]⟩
theorem q18c (d:Nat) (self1:St->Option q185) (x:q189):(q186 d).b 3 [] self1 (q18b x)=q18a d (fun y=>self1 (q18b y)) x:=by kernel_rfl
def q18d (d:Nat) (L1_g:q189->Option q185):q184->Option q185:=fun ((xAa,_),_) =>
 (L1_g (0,xAa,(xAa.length:Int),0))
theorem q18e (d:Nat) (x:q184):q188 d x=q18d d (iter (q18a d) d) x:=by
 have h:q188 d x=q18d d (fun y=>iter ((q186 d).b 3 []) d (q18b y)) x:=by kernel_rfl
 rw[h];congr 1<;>(funext y;first | rfl | exact qfi (q18c d) d y)
abbrev q18f:Type:=qim×qim×Unit
abbrev q18g:Type:=Int
noncomputable def q18h (d:Nat):Ent:=⟨tysT,(orc [(q17k d).s,(q17z d).s,(q186 d).s]),f147,mkPl [] [([0],[2,3]),([1],[2,3,5]),([2],[4])] [] [],d,147,[.row qil true,.row qil true],.undef,[.i .i64]⟩
theorem q18i (d:Nat):COK prog (q18h d).s:=Ent.k mixed tys (qeo (ac1 (q17l d) (ac1 (q180 d) (ac1 (q187 d) ac0)))) ⟨by kernel_rfl,by kernel_rfl,by kernel_rfl⟩
noncomputable def q18j (d:Nat) (x:q18f):Option q18g:=(q18h d).F x
def q18k (d:Nat):q18f->Option q18g:=fun ((xAa,xAb,xAc,_,_,_),(xBa,xBb,xBc,_,_,_),_) =>
 (obnd (q17m d ((xAa,xAb,()),(xBa,xBb,()),())) fun (r1a,_)=>(obnd (q181 d ((xAc,()),(xBc,()),())) fun r2=>(obnd (q188 d ((([(r1a,()),(r2,())]:List Di),()),())) fun r3=>some r3)))
theorem q18l (d:Nat) (x:q18f):q18j d x=q18k d x:=by kernel_rfl
abbrev q18m:Type:=qis×Unit
abbrev q18n:Type:=Int
noncomputable def q18o (d:Nat):Ent:=⟨tysT,(orc [qsy (qt0 d),(q149 d).s,(q18h d).s]),f81,mkPl [(1,(.box [.val Ri,.val Rb,.val Ri,.val qil,.val Ri])),(38,(.val Ri)),(83,(.val qil))] [([0],[1]),([1],[1,36]),([3,11],[1,38,39,40]),([4],[1,38,39,40,41]),([5],[1,3,4,38,39,40]),([6],[1,3,4,38,39,40,51]),([7],[1,38,39,40,53]),([9],[1,38,39,40,79]),([12],[1,5]),([13,21],[1,5,83,84,85]),([14],[1,5,83,84,85,86]),([15,18],[1,5,6,7,83,84,85]),([16],[1,5,6,7,83,84,85,109]),([19],[1,5,83,84,85,126]),([22],[2])] [] [(14,[1,5,83,84,85]),(4,[1,38,39,40])],d,81,[.row qir true],.undef,[.i .i64]⟩
theorem q18p (d:Nat):COK prog (q18o d).s:=Ent.k mixed tys (qeo (ac1 (qt2 d) (ac1 (q14a d) (ac1 (q18i d) ac0)))) ⟨by kernel_rfl,by kernel_rfl,by kernel_rfl⟩
noncomputable def q18q (d:Nat) (x:q18m):Option q18n:=(q18o d).F x
abbrev q18r:Type:=List qim×Int×Int×List Di×List Db×List Di×List qim×List Di×List (Int×Db)
abbrev q18s:Type:=List Di×Int×Int×List Di×List Db×List Di×List qim×List Di
def q18t (d:Nat) (self1:q18s->Option q18n):(List Di×Int×Int×List Di×List Db×List Di×List qim×List Di)->Option q18n:=fun (ya,yb,yc,yd,ye,yf,yg,yh) =>
 (self1 (ya,yb,(wi (yc+1)),yd,ye,yf,yg,yh))
def q18u (d:Nat) (self1:q18s->Option q18n):(List Di×Int×Int×Bool×List Di×List Db×List Di×List qim×List Di)->Option q18n:=fun (ya,yb,yc,yd,ye,yf,yg,yh,yi) =>
 (bif yd then none else (q18t d self1 (ya,yb,yc,ye,yf,yg,yh,yi)))
def q18v (d:Nat) (self2:q18r->Option q18n):(List qim×Int×Int×Bool×List Di×List Db×List Di×List qim×List Di×List (Int×Db))->Option q18n:=fun (ya,yb,yc,yd,ye,yf,yg,yh,yi,yj) =>
 (bif yd then none else (self2 (ya,yb,(wi (yc+1)),ye,yf,yg,yh,yi,yj)))
def q18w (d:Nat) (self2:q18r->Option q18n):(Int×List qim×Int×Int×Bool×List Di×List Db×List Di×List qim×List Di×List (Int×Db)×Int×Int×Int×Int×Int)->Option q18n:=fun (ya,yb,yc,yd,ye,yf,yg,yh,yi,yj,yk,yl,ym,yn,yo,yp) =>
 (bif ye then none else (let a8:=(mput (.int .i64) Rb yk yn (true,()));(obif (decide (ya>0)) (let e4:=(wi (ya-1));(obif (2==0) none (obif (inB (wi (Int.tdiv e4 2)) yi.length) (let e5:=(elt qin yi (wi (Int.tdiv e4 2)).toNat);(obnd (q18j d ((yl,ym,yn,yo,yp,()),(e5.1,e5.2.1,e5.2.2.1,e5.2.2.2.1,e5.2.2.2.2.1,()),())) fun r6=>(q18v d self2 (yb,yc,yd,(decide (r6<0)),yf,yg,yh,yi,yj,a8)))) none))) (q18v d self2 (yb,yc,yd,false,yf,yg,yh,yi,yj,a8)))))
def q18x (d:Nat) (self2:q18r->Option q18n):q18r->Option q18n:=fun (x2a,x2b,x2c,x2d,x2e,x2f,x2g,x2h,x2i) =>
 (bif (decide (x2c<x2b)) then (obif (inB x2c x2a.length) (let e2:=(elt qin x2a x2c.toNat);(obnd (qt0 d ((e2.1,e2.2.1,()),())) fun r3=>(obif (r3 != 0) (q18w d self2 (x2c,x2a,x2b,x2c,true,x2d,x2e,x2f,x2g,x2h,x2i,e2.1,e2.2.1,e2.2.2.1,e2.2.2.2.1,e2.2.2.2.2.1)) (obif (decide (e2.2.2.1<0)) (q18w d self2 (x2c,x2a,x2b,x2c,true,x2d,x2e,x2f,x2g,x2h,x2i,e2.1,e2.2.1,e2.2.2.1,e2.2.2.2.1,e2.2.2.2.2.1)) (obif (decide (e2.2.2.1>1000000)) (q18w d self2 (x2c,x2a,x2b,x2c,true,x2d,x2e,x2f,x2g,x2h,x2i,e2.1,e2.2.1,e2.2.2.1,e2.2.2.2.1,e2.2.2.2.2.1)) (q18w d self2 (x2c,x2a,x2b,x2c,(mget (.int .i64) Rb x2i e2.2.2.1).1,x2d,x2e,x2f,x2g,x2h,x2i,e2.1,e2.2.1,e2.2.2.1,e2.2.2.2.1,e2.2.2.2.2.1))))))) none) else some 0)
def q18y:q18r->St:=fun (x2a,x2b,x2c,x2d,x2e,x2f,x2g,x2h,x2i)=>⟨[(1,.ptr 0 0),(5,.mp 1),(83,.fz qil x2a),(84,i6 x2b),(85,i6 x2c)],[.cells [.fz Ri x2d,.fz Rb x2e,.fz Ri x2f,.fz qil x2g,.fz Ri x2h],.imap (.int .i64) false Rb x2i]⟩
def q18z (d:Nat) (L2_g:q18r->Option q18n) (self1:q18s->Option q18n):q18s->Option q18n:=fun (x1a,x1b,x1c,x1d,x1e,x1f,x1g,x1h) =>
 (bif (decide (x1c<x1b)) then (obif (inB x1c x1a.length) (let e2:=(elt zi x1a x1c.toNat);(obif (inB x1c x1e.length) (bif (!(elt zb x1e x1c.toNat).1) then (bif (e2.1 != (-1:Int)) then none else (q18t d self1 (x1a,x1b,x1c,x1d,x1e,x1f,x1g,x1h))) else (obif (decide (e2.1<0)) (q18u d self1 (x1a,x1b,x1c,true,x1d,x1e,x1f,x1g,x1h)) (obif (decide (e2.1≥(x1g.length:Int))) (q18u d self1 (x1a,x1b,x1c,true,x1d,x1e,x1f,x1g,x1h)) (obif (inB e2.1 x1g.length) (let e4:=(elt qin x1g (e2.1).toNat);(obif (inB x1c x1d.length) (q18u d self1 (x1a,x1b,x1c,(!((e4.2.2.2.1==x1c)&&((e4.2.2.2.2.1==(elt zi x1d x1c.toNat).1)&&true))),x1d,x1e,x1f,x1g,x1h)) none)) none)))) none)) none) else (L2_g (x1g,(x1g.length:Int),0,x1d,x1e,x1f,x1g,x1h,([]:List (Int×Db)))))
def q190:q18s->St:=fun (x1a,x1b,x1c,x1d,x1e,x1f,x1g,x1h)=>⟨[(1,.ptr 0 0),(38,.fz Ri x1a),(39,i6 x1b),(40,i6 x1c)],[.cells [.fz Ri x1d,.fz Rb x1e,.fz Ri x1f,.fz qil x1g,.fz Ri x1h]]⟩
def q191 (d:Nat) (L1_g:q18s->Option q18n):(Bool×List Di×List Db×List Di×List qim×List Di)->Option q18n:=fun (ya,yb,yc,yd,ye,yf) =>
 (bif ya then none else (L1_g (yf,(yf.length:Int),0,yb,yc,yd,ye,yf)))
theorem q192 (d:Nat) (self1:St->Option q18n) (self2:St->Option q18n) (x:q18r):(q18o d).b 14 [self1] self2 (q18y x)=q18x d (fun y=>self2 (q18y y)) x:=by kernel_rfl
def q193 (d:Nat) (self1:q18s->Option q18n) (x:q18s):Option q18n:=q18z d (iter (q18x d) d) self1 x
theorem q194 (d:Nat) (self1:St->Option q18n) (x:q18s):(q18o d).b 4 [] self1 (q190 x)=q193 d (fun y=>self1 (q190 y)) x:=by
 have h:(q18o d).b 4 [] self1 (q190 x)=q18z d (fun y=>iter ((q18o d).b 14 [self1]) d (q18y y)) (fun y=>self1 (q190 y)) x:=by kernel_rfl
 rw[h];unfold q193;congr 1<;>(funext y;first | rfl | exact qfi (q192 d self1) d y)
def q195 (d:Nat) (L1_g:q18s->Option q18n):q18m->Option q18n:=fun ((xAa,xAb,xAc,xAd,xAe,_),_) =>
 (obnd (q14b d ((xAa,xAb,xAc,()),())) fun r1=>(obif (r1 != 0) (q191 d L1_g (true,xAa,xAb,xAc,xAd,xAe)) (obif ((xAe.length:Int) != (xAb.length:Int)) (q191 d L1_g (true,xAa,xAb,xAc,xAd,xAe)) (q191 d L1_g (((xAd.length:Int) != (wi ((xAb.length:Int)-(xAc.length:Int)))),xAa,xAb,xAc,xAd,xAe)))))
theorem q196 (d:Nat) (x:q18m):q18q d x=q195 d (iter (q193 d) d) x:=by
 have h:q18q d x=q195 d (fun y=>iter ((q18o d).b 4 []) d (q190 y)) x:=by kernel_rfl
 rw[h];congr 1<;>(funext y;first | rfl | exact qfi (q194 d) d y)
abbrev q197:Type:=qim×Di×Unit
abbrev q198:Type:=Bool
noncomputable def q199 (d:Nat):Ent:=⟨tysT,(orc []),f95,mkPl [] [([0],[1,2]),([1],[3])] [] [],d,95,[.row qil true,.ref Ri],.undef,[.bo]⟩
theorem q19a (d:Nat):COK prog (q199 d).s:=Ent.k mixed tys (qeo ac0) ⟨by kernel_rfl,by kernel_rfl,by kernel_rfl⟩
noncomputable def q19b (d:Nat) (x:q197):Option q198:=(q199 d).F x
def q19c (d:Nat):q197->Option q198:=fun ((_,_,xAc,_,_,_),xB,_) =>
 (some (xAc==xB.1))
theorem q19d (d:Nat) (x:q197):q19b d x=q19c d x:=by kernel_rfl
abbrev q19e:Type:=qip×(Di×Unit)×Unit
abbrev q19f:Type:=Int
noncomputable def q19g (d:Nat):Ent:=⟨tysT,(orc [(q199 d).s]),f151,mkPl [(0,(.val qil))] [([0],[0,1]),([1,6],[0,1,7,8]),([2],[0,1,7,8,9]),([3],[0,1,5,7,8]),([4],[0,1,5,7,8,16]),([5,7],[4])] [] [(2,[0,1,7,8])],d,151,[.row qio false,.fn 95 [Ri]],.undef,[.i .i64]⟩
theorem q19h (d:Nat):COK prog (q19g d).s:=Ent.k mixed tys (qeo (ac1 (q19a d) ac0)) ⟨by kernel_rfl,by kernel_rfl,by kernel_rfl⟩
noncomputable def q19i (d:Nat) (x:q19e):Option q19f:=(q19g d).F x
abbrev q19j:Type:=List qim×Di×Int×Int
def q19k (d:Nat) (self1:q19j->Option q19f):q19j->Option q19f:=fun (x1a,x1b,x1c,x1d) =>
 (bif (decide (x1d<x1c)) then (obif (inB x1d x1a.length) (let e1:=(elt qin x1a x1d.toNat);(obnd (q19b d ((e1.1,e1.2.1,e1.2.2.1,e1.2.2.2.1,e1.2.2.2.2.1,()),x1b,())) fun r2=>(bif r2 then some x1d else (self1 (x1a,x1b,x1c,(wi (x1d+1))))))) none) else some (-1:Int))
def q19l:q19j->St:=fun (x1a,x1b,x1c,x1d)=>⟨[(0,.fz qil x1a),(1,.fn 95 [.fp Ri x1b 0]),(7,i6 x1c),(8,i6 x1d)],[]⟩
theorem q19m (d:Nat) (self1:St->Option q19f) (x:q19j):(q19g d).b 2 [] self1 (q19l x)=q19k d (fun y=>self1 (q19l y)) x:=by kernel_rfl
def q19n (d:Nat) (L1_g:q19j->Option q19f):q19e->Option q19f:=fun ((xAa,_),(xBa,_),_) =>
 (L1_g (xAa,xBa,(xAa.length:Int),0))
theorem q19o (d:Nat) (x:q19e):q19i d x=q19n d (iter (q19k d) d) x:=by
 have h:q19i d x=q19n d (fun y=>iter ((q19g d).b 2 []) d (q19l y)) x:=by kernel_rfl
 rw[h];congr 1<;>(funext y;first | rfl | exact qfi (q19m d) d y)
abbrev q19p:Type:=qip×(Di×Unit)×Unit
abbrev q19q:Type:=Bool
noncomputable def q19r (d:Nat):Ent:=⟨tysT,(orc [(q19g d).s]),f94,mkPl [(0,(.val qil))] [([0],[0,1]),([1],[4])] [] [],d,94,[.row qio false,.fn 95 [Ri]],.undef,[.bo]⟩
theorem q19s (d:Nat):COK prog (q19r d).s:=Ent.k mixed tys (qeo (ac1 (q19h d) ac0)) ⟨by kernel_rfl,by kernel_rfl,by kernel_rfl⟩
noncomputable def q19t (d:Nat) (x:q19p):Option q19q:=(q19r d).F x
def q19u (d:Nat):q19p->Option q19q:=fun ((xAa,_),(xBa,_),_) =>
 (obnd (q19i d ((xAa,()),(xBa,()),())) fun r1=>(some (decide (r1≥0))))
theorem q19v (d:Nat) (x:q19p):q19t d x=q19u d x:=by kernel_rfl
abbrev q19w:Type:=List Di×List Db×List Di×Int×Int×Int×Int×Int×Int×List qim×List Di
abbrev q19x:Type:=List qim×List Di
noncomputable def q19y (d:Nat):GEnt:=⟨tysT,(orc []),f154,mkPl [(3,(.box [.val Ri,.val Rb,.val Ri,.own qil,.own Ri]))] [([0],[0,1,3,5]),([1],[0])] [] [],d,154,[0],2,(.tup [.tup [.agg [.undef,.undef,.undef,.rs 0,.rs 1],.undef,.agg [.undef,.undef,.undef,.undef,.undef]],.tup [.undef,.undef]]),[.z Ri,.z Rb,.z Ri,.i .i64,.i .i64,.i .i64,.i .i64,.i .i64,.i .i64,.z qil,.z Ri],(.tup [.tup [],.tup [.undef,.undef]]),[.z qil,.z Ri]⟩
theorem q19z (d:Nat):COKG prog (q19y d).s:=GEnt.k mixed tys (qeo ac0) ⟨by kernel_rfl,by kernel_rfl,by kernel_rfl⟩ (by kernel_rfl) fun r=>⟨by kernel_rfl,by kernel_rfl⟩
noncomputable def q1a0 (d:Nat) (x:q19w):Option q19x:=(q19y d).F x
def q1a1 (d:Nat):q19w->Option q19x:=fun (_,_,_,xd,xe,xf,xg,xh,xi,xj,xk) =>
 (obif (Nat.blt 0 xj.length&&(Nat.blt 0 xk.length&&true)) (obif (inB xd xj.length) (obif (inB xh xk.length) (some ((List.set xj xd.toNat (xe,xf,xg,xh,xi,())),(List.set xk xh.toNat (xd,())))) none) none) none)
theorem q1a2 (d:Nat) (x:q19w):q1a0 d x=q1a1 d x:=by kernel_rfl
abbrev q1a3:Type:=List Di×List Db×List Di×Int×Int×Int×Int×Int×Int×List qim×List Di
abbrev q1a4:Type:=List qim×List Di
noncomputable def q1a5 (d:Nat):GEnt:=⟨tysT,(orcG (q19y d).s (orc [(q18h d).s])),f98,mkPl [(3,(.box [.val Ri,.val Rb,.val Ri,.own qil,.own Ri]))] [([0,2,3,11],[0,1,3,5]),([1],[0,1,3,5,20]),([4,6,8],[0,1,3,5,6]),([5],[0,1,3,5,6,41]),([7],[0,1,3,5,6,65]),([9],[0,1,3,5,6,75]),([10],[0,3,5,6]),([12],[0])] [] [(5,[0,1,3,5,6]),(1,[0,1,3,5])],d,98,[0],2,(.tup [.tup [.agg [.undef,.undef,.undef,.rs 0,.rs 1],.undef,.agg [.undef,.undef,.undef,.undef,.undef]],.tup [.undef,.undef]]),[.z Ri,.z Rb,.z Ri,.i .i64,.i .i64,.i .i64,.i .i64,.i .i64,.i .i64,.z qil,.z Ri],(.tup [.tup [],.tup [.undef,.undef]]),[.z qil,.z Ri]⟩
theorem q1a6 (d:Nat):COKG prog (q1a5 d).s:=GEnt.k mixed tys (qh2 (q19z d) (qeo (ac1 (q18i d) ac0))) ⟨by kernel_rfl,by kernel_rfl,by kernel_rfl⟩ (by kernel_rfl) fun r=>⟨by kernel_rfl,by kernel_rfl⟩
noncomputable def q1a7 (d:Nat) (x:q1a3):Option q1a4:=(q1a5 d).F x
abbrev q1a8:Type:=List Di×List Db×List Di×Int×Int×List qim×List Di×List Di×List Db×List Di×Int×Int×Int×Int×Int
abbrev q1a9:Type:=List Di×List Db×List Di×Int×List qim×List Di×List Di×List Db×List Di×Int×Int×Int×Int×Int
def q1aa (d:Nat):(List Di×List Db×List Di×Int×Int×List qim×List Di×List Di×List Db×List Di×Int×Int×Int×Int×Int)->Option q1a4:=fun (_,_,_,yd,_,yf,yg,yh,yi,yj,yk,yl,ym,yn,yo) =>
 (obnd (q1a0 d (yh,yi,yj,yd,yk,yl,ym,yn,yo,yf,yg)) fun (r14a,r14b)=>some (r14a,r14b))
def q1ab (d:Nat) (self2:q1a8->Option q1a4):(List Di×List Db×List Di×Int×Int×List qim×List Di×List Di×List Db×List Di×Int×Int×Int×Int×Int)->Option q1a4:=fun (ya,yb,yc,yd,ye,yf,yg,yh,yi,yj,yk,yl,ym,yn,yo) =>
 (obif (inB ye yf.length) (let e12:=(elt qin yf ye.toNat);(obnd (q18j d ((e12.1,e12.2.1,e12.2.2.1,e12.2.2.2.1,e12.2.2.2.2.1,()),(yk,yl,ym,yn,yo,()),())) fun r13=>(bif (decide (r13≥0)) then (q1aa d (ya,yb,yc,yd,ye,yf,yg,yh,yi,yj,yk,yl,ym,yn,yo)) else (obif (inB ye yf.length) (let e14:=(elt qin yf ye.toNat);(obnd (q1a0 d (yh,yi,yj,yd,e14.1,e14.2.1,e14.2.2.1,e14.2.2.2.1,e14.2.2.2.2.1,yf,yg)) fun (r15a,r15b)=>(self2 (ya,yb,yc,ye,(wi ((wi (2*ye))+1)),r15a,r15b,yh,yi,yj,yk,yl,ym,yn,yo)))) none)))) none)
def q1ac (d:Nat) (self2:q1a8->Option q1a4):(List Di×List Db×List Di×Int×Int×Bool×List qim×List Di×List Di×List Db×List Di×Int×Int×Int×Int×Int)->Option q1a4:=fun (ya,yb,yc,yd,ye,yf,yg,yh,yi,yj,yk,yl,ym,yn,yo,yp) =>
 (bif yf then (q1ab d self2 (ya,yb,yc,yd,(wi (ye+1)),yg,yh,yi,yj,yk,yl,ym,yn,yo,yp)) else (q1ab d self2 (ya,yb,yc,yd,ye,yg,yh,yi,yj,yk,yl,ym,yn,yo,yp)))
def q1ad (d:Nat) (self2:q1a8->Option q1a4):q1a8->Option q1a4:=fun (x2a,x2b,x2c,x2d,x2e,x2f,x2g,x2h,x2i,x2j,x2k,x2l,x2m,x2n,x2o) =>
 (bif (decide (x2e<(x2f.length:Int))) then (obif (decide ((wi (x2e+1))<(x2f.length:Int))) (let e7:=(wi (x2e+1));(obif (inB e7 x2f.length) (let e8:=(elt qin x2f e7.toNat);(obif (inB x2e x2f.length) (let e9:=(elt qin x2f x2e.toNat);(obnd (q18j d ((e8.1,e8.2.1,e8.2.2.1,e8.2.2.2.1,e8.2.2.2.2.1,()),(e9.1,e9.2.1,e9.2.2.1,e9.2.2.2.1,e9.2.2.2.2.1,()),())) fun r10=>(q1ac d self2 (x2a,x2b,x2c,x2d,x2e,(decide (r10<0)),x2f,x2g,x2h,x2i,x2j,x2k,x2l,x2m,x2n,x2o)))) none)) none)) (q1ac d self2 (x2a,x2b,x2c,x2d,x2e,false,x2f,x2g,x2h,x2i,x2j,x2k,x2l,x2m,x2n,x2o))) else (q1aa d (x2a,x2b,x2c,x2d,x2e,x2f,x2g,x2h,x2i,x2j,x2k,x2l,x2m,x2n,x2o)))
def q1ae:q1a8->St:=fun (x2a,x2b,x2c,x2d,x2e,x2f,x2g,x2h,x2i,x2j,x2k,x2l,x2m,x2n,x2o)=>⟨[(0,.agg [.fz Ri x2a,.fz Rb x2b,.fz Ri x2c,.rs 0,.rs 1]),(1,i6 x2d),(3,.ptr 2 0),(5,.ptr 3 0),(6,i6 x2e)],[.rows qil x2f,.rows Ri x2g,.cells [.fz Ri x2h,.fz Rb x2i,.fz Ri x2j,.rs 0,.rs 1],.cells [i6 x2k,i6 x2l,i6 x2m,i6 x2n,i6 x2o]]⟩
def q1af (d:Nat) (L2_g:q1a8->Option q1a4) (self1:q1a9->Option q1a4):(List Di×List Db×List Di×Int×Bool×List qim×List Di×List Di×List Db×List Di×Int×Int×Int×Int×Int)->Option q1a4:=fun (ya,yb,yc,yd,ye,yf,yg,yh,yi,yj,yk,yl,ym,yn,yo) =>
 (bif ye then (let e4:=(wi (yd-1));(obif (2==0) none (obif (inB (wi (Int.tdiv e4 2)) yf.length) (let e5:=(elt qin yf (wi (Int.tdiv e4 2)).toNat);(obnd (q1a0 d (yh,yi,yj,yd,e5.1,e5.2.1,e5.2.2.1,e5.2.2.2.1,e5.2.2.2.2.1,yf,yg)) fun (r6a,r6b)=>(obif (2==0) none (self1 (ya,yb,yc,(wi (Int.tdiv (wi (yd-1)) 2)),r6a,r6b,yh,yi,yj,yk,yl,ym,yn,yo))))) none))) else (L2_g (ya,yb,yc,yd,(wi ((wi (2*yd))+1)),yf,yg,yh,yi,yj,yk,yl,ym,yn,yo)))
def q1ag (d:Nat) (L2_g:q1a8->Option q1a4) (self1:q1a9->Option q1a4):q1a9->Option q1a4:=fun (x1a,x1b,x1c,x1d,x1e,x1f,x1g,x1h,x1i,x1j,x1k,x1l,x1m,x1n) =>
 (obif (decide (x1d>0)) (let e1:=(wi (x1d-1));(obif (2==0) none (obif (inB (wi (Int.tdiv e1 2)) x1e.length) (let e2:=(elt qin x1e (wi (Int.tdiv e1 2)).toNat);(obnd (q18j d ((x1j,x1k,x1l,x1m,x1n,()),(e2.1,e2.2.1,e2.2.2.1,e2.2.2.2.1,e2.2.2.2.2.1,()),())) fun r3=>(q1af d L2_g self1 (x1a,x1b,x1c,x1d,(decide (r3<0)),x1e,x1f,x1g,x1h,x1i,x1j,x1k,x1l,x1m,x1n)))) none))) (q1af d L2_g self1 (x1a,x1b,x1c,x1d,false,x1e,x1f,x1g,x1h,x1i,x1j,x1k,x1l,x1m,x1n)))
def q1ah:q1a9->St:=fun (x1a,x1b,x1c,x1d,x1e,x1f,x1g,x1h,x1i,x1j,x1k,x1l,x1m,x1n)=>⟨[(0,.agg [.fz Ri x1a,.fz Rb x1b,.fz Ri x1c,.rs 0,.rs 1]),(1,i6 x1d),(3,.ptr 2 0),(5,.ptr 3 0)],[.rows qil x1e,.rows Ri x1f,.cells [.fz Ri x1g,.fz Rb x1h,.fz Ri x1i,.rs 0,.rs 1],.cells [i6 x1j,i6 x1k,i6 x1l,i6 x1m,i6 x1n]]⟩
theorem q1ai (d:Nat) (xx:q1a3) (self1:St->Option q1a4) (self2:St->Option q1a4) (x:q1a8):(q1a5 d).b xx 5 [self1] self2 (q1ae x)=q1ad d (fun y=>self2 (q1ae y)) x:=by kernel_rfl
def q1aj (d:Nat) (self1:q1a9->Option q1a4) (x:q1a9):Option q1a4:=q1ag d (iter (q1ad d) d) self1 x
theorem q1ak (d:Nat) (xx:q1a3) (self1:St->Option q1a4) (x:q1a9):(q1a5 d).b xx 1 [] self1 (q1ah x)=q1aj d (fun y=>self1 (q1ah y)) x:=by
 have h:(q1a5 d).b xx 1 [] self1 (q1ah x)=q1ag d (fun y=>iter ((q1a5 d).b xx 5 [self1]) d (q1ae y)) (fun y=>self1 (q1ah y)) x:=by kernel_rfl
 rw[h];unfold q1aj;congr 1<;>(funext y;first | rfl | exact qfi (q1ai d xx self1) d y)
def q1al (d:Nat) (L1_g:q1a9->Option q1a4):q1a3->Option q1a4:=fun (xa,xb,xc,xd,xe,xf,xg,xh,xi,xj,xk) =>
 (obif (Nat.blt 0 xj.length&&(Nat.blt 0 xk.length&&true)) (L1_g (xa,xb,xc,xd,xj,xk,xa,xb,xc,xe,xf,xg,xh,xi)) none)
theorem q1am (d:Nat) (x:q1a3):q1a7 d x=q1al d (iter (q1aj d) d) x:=by
 have h:q1a7 d x=q1al d (fun y=>iter ((q1a5 d).b x 1 []) d (q1ah y)) x:=by kernel_rfl
 rw[h];congr 1<;>(funext y;first | rfl | exact qfi (q1ak d x) d y)
abbrev q1an:Type:=qis×Dii×Di×Unit
abbrev q1ao:Type:=List Di×List Db×List Di×List qim×List Di×Int×Int×Int
noncomputable def q1ap (d:Nat):Ent:=⟨tysT,(orcG (q1a5 d).s (orc [qsy (qt0 d),(q18o d).s,(q19r d).s,(q151 d).s,(q11o d).s])),f36,mkPl [(3,(.box [.val Ri,.val Rb,.val Ri,.val qil,.val Ri])),(6,(.box [.val Ri,.val Rb,.val Ri,.own qil,.own Ri])),(10,(.box [.val Ri,.val Rb,.val Ri])),(13,(.box [.val Ri,.val Rb,.val Ri,.own qil,.own Ri]))] [([0],[3,4,5,6,7]),([1],[3,4,5,6,7,9]),([2],[3,4,5,6,7,21]),([4],[3,4,5,6,7,30]),([6],[3,4,5,6,7,36]),([8],[3,4,5,6,7,10,11,12]),([9],[3,4,5,6,7,10,11,47]),([11],[4,5,6,7,10,11,13]),([12],[6,7,10,11,13,14]),([13],[6,7,11,13,14]),([14],[6,7,11,13]),([15],[6,7,8])] [] [],d,36,[.row qir true,.row Rii true,.row Ri false],(.tup [(.agg [.undef,.undef,.undef,.undef,.undef]),(.agg [.undef,.undef]),.undef]),[.z Ri,.z Rb,.z Ri,.o qil,.o Ri,.i .i64,.i .i64,.i .i64]⟩
theorem q1aq (d:Nat):COK prog (q1ap d).s:=Ent.k mixed tys (qh2 (q1a6 d) (qeo (ac1 (qt2 d) (ac1 (q18p d) (ac1 (q19s d) (ac1 (q152 d) (ac1 (q11p d) ac0))))))) ⟨by kernel_rfl,by kernel_rfl,by kernel_rfl⟩
noncomputable def q1ar (d:Nat) (x:q1an):Option q1ao:=(q1ap d).F x
def q1as (d:Nat):(Bool×List Di×List Db×List Di×List qim×List Di×Int×Int×Int×List Di×List Db×List Di×List qim×List Di×Int×Int)->Option q1ao:=fun (ya,yb,yc,yd,ye,yf,yg,yh,yi,_,_,_,_,_,_,_) =>
 (bif ya then none else (obnd (q19t d ((ye,()),((yi,()),()),())) fun r3=>(bif r3 then none else (obnd (q153 d ((yb,yc,yd,()),())) fun (r4a,r4b,r4c,r4d,r4e,r4f)=>(bif (r4f != 0) then none else (obnd (q11q d ((yb,yc,yd,ye,yf,()),())) fun (_,_,_,r5d,r5e)=>(obif (apB r5d.length (List.length ([(yg,yh,yi,r4d,r4e,())]:List qim))) (let a9:=(r5d++([(yg,yh,yi,r4d,r4e,())]:List qim));(obnd (q1a7 d (r4a,r4b,r4c,(wi ((a9.length:Int)-1)),yg,yh,yi,r4d,r4e,a9,r5e)) fun (r7a,r7b)=>some (r4a,r4b,r4c,r7a,r7b,r4d,r4e,0))) none)))))))
def q1at (d:Nat):q1an->Option q1ao:=fun ((xAa,xAb,xAc,xAd,xAe,_),(xBa,xBb,_),(xCa,_),_) =>
 (let a1:=([]:List Di);(let a2:=([]:List Db);(let a3:=([]:List Di);(let a4:=([]:List qim);(let a5:=([]:List Di);(obnd (q18q d ((xAa,xAb,xAc,xAd,xAe,()),())) fun r1=>(obnd (qt0 d ((xBa,xBb,()),())) fun r2=>(bif ((tmax r1 r2) != 0) then none else (obif (decide (xCa<0)) (q1as d (true,xAa,xAb,xAc,xAd,xAe,xBa,xBb,xCa,a1,a2,a3,a4,a5,0,0)) (q1as d ((decide (xCa>1000000)),xAa,xAb,xAc,xAd,xAe,xBa,xBb,xCa,a1,a2,a3,a4,a5,0,0)))))))))))
theorem q1au (d:Nat) (x:q1an):q1ar d x=q1at d x:=by kernel_rfl
abbrev q1av:Type:=qis×Dii×Unit
abbrev q1aw:Type:=Int×Int
noncomputable def q1ax (d:Nat):Ent:=⟨tysT,(orc [(q18o d).s,(q158 d).s]),f205,mkPl [(2,(.box [.val Ri,.val Rb,.val Ri,.val qil,.val Ri]))] [([0],[2,3]),([1],[2,3,6]),([2],[2,3,12]),([4],[2,3,7,8]),([5],[2,3,26]),([7],[4,5])] [] [],d,205,[.row qir true,.row Rii true],(.tup [.undef,.undef]),[.i .i64,.i .i64]⟩
theorem q1ay (d:Nat):COK prog (q1ax d).s:=Ent.k mixed tys (qeo (ac1 (q18p d) (ac1 (q159 d) ac0))) ⟨by kernel_rfl,by kernel_rfl,by kernel_rfl⟩
noncomputable def q1az (d:Nat) (x:q1av):Option q1aw:=(q1ax d).F x
def q1b0 (d:Nat):(Bool×List Di×List Db×List Di×List qim×List Di×Int×Int)->Option q1aw:=fun (ya,_,_,_,_,yf,yg,_) =>
 (bif ya then none else (obif (inB yg yf.length) (some ((elt zi yf yg.toNat).1,0)) none))
def q1b1 (d:Nat):q1av->Option q1aw:=fun ((xAa,xAb,xAc,xAd,xAe,_),(xBa,xBb,_),_) =>
 (obnd (q18q d ((xAa,xAb,xAc,xAd,xAe,()),())) fun r1=>(bif (r1 != 0) then none else (obnd (q15a d ((xAa,xAb,xAc,()),(xBa,xBb,()),())) fun (r2a,r2b)=>(obif (r2b != 0) (q1b0 d (true,xAa,xAb,xAc,xAd,xAe,xBa,xBb)) (q1b0 d ((!r2a),xAa,xAb,xAc,xAd,xAe,xBa,xBb))))))
theorem q1b2 (d:Nat) (x:q1av):q1az d x=q1b1 d x:=by kernel_rfl
abbrev q1b3:Type:=qis×Di×Unit
abbrev q1b4:Type:=List Di×List Db×List Di×List qim×List Di×Int×Int×Int×Int×Int×Int
noncomputable def q1b5 (d:Nat):Ent:=⟨(litT 53 tysT),(orcG (q1a5 d).s (orc [(q11o d).s,(q15m d).s])),f206,mkPl [(2,(.box [.val Ri,.val Rb,.val Ri,.val qil,.val Ri])),(4,(.box [.val Ri,.val Rb,.val Ri,.own qil,.own Ri])),(8,(.box [.val Ri,.val Rb,.val Ri])),(10,(.box [.val Ri,.val Rb,.val Ri,.own qil,.own Ri]))] [([0],[1,2,4,5]),([1],[1,2,4,5,7]),([2],[1,2,4,5,7,8,9]),([3],[1,2,4,5,7,8,27]),([5],[1,4,5,7,8,10]),([6],[1,4,5,7,8,10,11]),([7],[1,4,5,7,8,10,11,12]),([8],[1,4,5,7,10,11,12]),([9],[1,4,5,7,10,12,57]),([10],[4,5,7,10]),([11],[4,5,6])] [] [],d,206,[.row qir true,.row Ri false],(.tup [(.agg [.undef,.undef,.undef,.undef,.undef]),(.agg [.undef,.undef,.undef,.undef,.undef]),.undef]),[.z Ri,.z Rb,.z Ri,.o qil,.o Ri,.i .i64,.i .i64,.i .i64,.i .i64,.i .i64,.i .i64]⟩
theorem q1b6 (d:Nat):COK prog (q1b5 d).s:=Ent.k mixed (q21 tys 53) (qh2 (q1a6 d) (qeo (ac1 (q11p d) (ac1 (q15n d) ac0)))) ⟨by kernel_rfl,by kernel_rfl,by kernel_rfl⟩
noncomputable def q1b7 (d:Nat) (x:q1b3):Option q1b4:=(q1b5 d).F x
def q1b8 (d:Nat):(List Di×List Db×List Di×List qim×List Di×Int×Int×Int×Int×Int×Int×Int×Int×Int×Int×List Di×List Db×List Di×List qim×List Di)->Option q1b4:=fun (_,_,_,_,_,_,_,_,_,_,yk,yl,ym,yn,yo,yp,yq,yr,ys,yt) =>
 some (yp,yq,yr,ys,yt,yk,yl,ym,yn,yo,0)
def q1b9 (d:Nat):q1b3->Option q1b4:=fun ((xAa,xAb,xAc,xAd,xAe,_),(xBa,_),_) =>
 (let a1:=([]:List Di);(let a2:=([]:List Db);(let a3:=([]:List Di);(let a4:=([]:List qim);(let a5:=([]:List Di);(obif (inB xBa xAd.length) (let e1:=(elt qin xAd xBa.toNat);(obnd (q15o d ((xAa,xAb,xAc,()),(e1.2.2.2.1,e1.2.2.2.2.1,()),())) fun (r2a,r2b,r2c,r2d)=>(bif (r2d != 0) then none else (obnd (q11q d ((xAa,xAb,xAc,xAd,xAe,()),())) fun (_,_,_,r3d,r3e)=>(let e4:=(wi ((r3d.length:Int)-1));(obif (inB e4 r3d.length) (let e5:=(elt qin r3d e4.toNat);(obif (decide (0<=e4)&&decide (e4<=(r3d.length:Int))) (obif (inB e1.2.2.2.1 r3e.length) (let a7:=(List.take e4.toNat r3d);(let a8:=(List.set r3e (e1.2.2.2.1).toNat ((-1:Int),()));(bif (decide (xBa<e4)) then (obnd (q1a7 d (r2a,r2b,r2c,xBa,e5.1,e5.2.1,e5.2.2.1,e5.2.2.2.1,e5.2.2.2.2.1,a7,a8)) fun (r6a,r6b)=>(q1b8 d (a1,a2,a3,a4,a5,0,0,0,0,0,e1.1,e1.2.1,e1.2.2.1,e1.2.2.2.1,e1.2.2.2.2.1,r2a,r2b,r2c,r6a,r6b))) else (q1b8 d (a1,a2,a3,a4,a5,0,0,0,0,0,e1.1,e1.2.1,e1.2.2.1,e1.2.2.2.1,e1.2.2.2.2.1,r2a,r2b,r2c,a7,a8))))) none) none)) none)))))) none))))))
theorem q1ba (d:Nat) (x:q1b3):q1b7 d x=q1b9 d x:=by kernel_rfl
abbrev q1bb:Type:=qis×Dii×Unit
abbrev q1bc:Type:=List Di×List Db×List Di×List qim×List Di×Int×Int×Int×Int×Int×Int
noncomputable def q1bd (d:Nat):Ent:=⟨tysT,(orc [(q1ax d).s,(q1b5 d).s]),f159,mkPl [(2,(.box [.val Ri,.val Rb,.val Ri,.val qil,.val Ri])),(4,(.box [.val Ri,.val Rb,.val Ri,.own qil,.own Ri]))] [([0],[2,3,4,5]),([1],[2,4,5,7,8]),([2],[2,4,5,7,16]),([4],[4,5,6])] [] [],d,159,[.row qir true,.row Rii true],(.tup [(.agg [.undef,.undef,.undef,.undef,.undef]),(.agg [.undef,.undef,.undef,.undef,.undef]),.undef]),[.z Ri,.z Rb,.z Ri,.o qil,.o Ri,.i .i64,.i .i64,.i .i64,.i .i64,.i .i64,.i .i64]⟩
theorem q1be (d:Nat):COK prog (q1bd d).s:=Ent.k mixed tys (qeo (ac1 (q1ay d) (ac1 (q1b6 d) ac0))) ⟨by kernel_rfl,by kernel_rfl,by kernel_rfl⟩
noncomputable def q1bf (d:Nat) (x:q1bb):Option q1bc:=(q1bd d).F x
def q1bg (d:Nat):q1bb->Option q1bc:=fun ((xAa,xAb,xAc,xAd,xAe,_),(xBa,xBb,_),_) =>
 (obnd (q1az d ((xAa,xAb,xAc,xAd,xAe,()),(xBa,xBb,()),())) fun (r1a,r1b)=>(bif (r1b != 0) then none else (obnd (q1b7 d ((xAa,xAb,xAc,xAd,xAe,()),(r1a,()),())) fun (r2a,r2b,r2c,r2d,r2e,r2f,r2g,r2h,r2i,r2j,r2k)=>some (r2a,r2b,r2c,r2d,r2e,r2f,r2g,r2h,r2i,r2j,r2k))))
theorem q1bh (d:Nat) (x:q1bb):q1bf d x=q1bg d x:=by kernel_rfl
abbrev q1bi:Type:=qis×Unit
abbrev q1bj:Type:=Int×Int×Int×Int×Int×Int
noncomputable def q1bk (d:Nat):Ent:=⟨tysT,(orc [(q18o d).s]),f49,mkPl [(1,(.box [.val Ri,.val Rb,.val Ri,.val qil,.val Ri]))] [([0],[1,2]),([1],[1,2,4]),([2],[1,2,8]),([4],[1,2,14]),([5,6],[2,3])] [] [],d,49,[.row qir true],(.tup [(.agg [.undef,.undef,.undef,.undef,.undef]),.undef]),[.i .i64,.i .i64,.i .i64,.i .i64,.i .i64,.i .i64]⟩
theorem q1bl (d:Nat):COK prog (q1bk d).s:=Ent.k mixed tys (qeo (ac1 (q18p d) ac0)) ⟨by kernel_rfl,by kernel_rfl,by kernel_rfl⟩
noncomputable def q1bm (d:Nat) (x:q1bi):Option q1bj:=(q1bk d).F x
def q1bn (d:Nat):q1bi->Option q1bj:=fun ((xAa,xAb,xAc,xAd,xAe,_),_) =>
 (obnd (q18q d ((xAa,xAb,xAc,xAd,xAe,()),())) fun r1=>(bif (r1 != 0) then none else (bif ((xAd.length:Int)==0) then some (0,0,0,0,0,42) else (obif (inB 0 xAd.length) (let e2:=(elt qin xAd 0);some (e2.1,e2.2.1,e2.2.2.1,e2.2.2.2.1,e2.2.2.2.2.1,0)) none))))
theorem q1bo (d:Nat) (x:q1bi):q1bm d x=q1bn d x:=by kernel_rfl
end
noncomputable section
abbrev q1bp:List Pk:=[]
abbrev q1bq:List Pk:=[.row Ri false,.row Ri false]
abbrev q1br:Type:=(Unit)×(Di×Di×Unit)×List Diii
abbrev q1bs:Type:=List Diii
def q1bt (F:q1br->Option q1bs):CSpec:=⟨202,q1bp,q1bq,Riii,fun a b c=>F (a,b,c)⟩
abbrev q1bu:Type:=Unit
def q1bv (_d:Nat):q1bu:=()
def q1bw (C:q1bu):List Go.Tx.Spec:=[]
abbrev q1bx:Type:=Int×Int×List Diii
def q1by (v:q1bx):St:=⟨[(0,.rs 0),(1,i6 v.1),(2,i6 v.2.1)],[.rows Riii v.2.2]⟩
def q1bz (C:q1bu) (v:q1bx):Dt q1bx:=(Dt.ret (v.1,v.2.1,v.2.2))
theorem q1c0 (C:q1bu) (v:q1bx):treg (litT 47 tysT) (orc (q1bw C)) 33 (regO (qeu f202) 0) false [(0,(.own Riii)),(1,.any),(2,.any)] (q1by v) some=(q1bz C v).eval fun y=>some (q1by y):=by kernel_rfl
def q1c1 (C:q1bu) (v:q1bx):Dt q1bx:=(Dt.ite (decide (0<=v.1)&&decide (v.1<=v.2.1)&&decide (v.2.1<=(List.length v.2.2:Int))&&decide ((List.length v.2.2:Int)<=(List.length v.2.2:Int))) (Dt.ret (v.1,v.2.1,v.2.2)) Dt.fail)
theorem q1c2 (C:q1bu) (v:q1bx):treg (litT 47 tysT) (orc (q1bw C)) 33 (regO (qeu f202) 1) false [(0,(.own Riii)),(1,.any),(2,.any)] (q1by v) some=(q1c1 C v).eval fun y=>some (q1by y):=by kernel_rfl
abbrev q1c3:Type:=Int×Int×Bool×List Diii
def q1c4 (v:q1c3):St:=⟨[(0,.rs 0),(1,i6 v.1),(2,i6 v.2.1),(16,.bool v.2.2.1)],[.rows Riii v.2.2.2]⟩
def q1c5 (C:q1bu) (v:q1bx):Dt q1c3:=(Dt.ret (v.1,v.2.1,(v.1==v.2.1),v.2.2))
theorem q1c6 (C:q1bu) (v:q1bx):treg (litT 47 tysT) (orc (q1bw C)) 33 (regO (qeu f202) 2) false [(0,(.own Riii)),(1,.any),(2,.any),(16,.any)] (q1by v) some=(q1c5 C v).eval fun y=>some (q1c4 y):=by kernel_rfl
abbrev q1c7:Type:=List Diii
def q1c8 (v:q1c7):St:=⟨[(6,.rs 0)],[.rows Riii v]⟩
def q1c9 (C:q1bu) (v:q1c3):Dt q1c7:=(Dt.ret v.2.2.2)
theorem q1ca (C:q1bu) (v:q1c3):treg (litT 47 tysT) (orc (q1bw C)) 33 (regO (qeu f202) 3) false [(6,(.own Riii))] (q1c4 v) some=(q1c9 C v).eval fun y=>some (q1c8 y):=by kernel_rfl
abbrev q1cb:Type:=Int×Int×Int×List Diii
def q1cc (v:q1cb):St:=⟨[(0,.rs 0),(1,i6 v.1),(2,i6 v.2.1),(7,i6 v.2.2.1)],[.rows Riii v.2.2.2]⟩
def q1cd (C:q1bu) (v:q1c3):Dt q1cb:=(Dt.ret (v.1,v.2.1,(List.length v.2.2.2:Int),v.2.2.2))
theorem q1ce (C:q1bu) (v:q1c3):treg (litT 47 tysT) (orc (q1bw C)) 33 (regO (qeu f202) 4) false [(0,(.own Riii)),(1,.any),(2,.any),(7,.any)] (q1c4 v) some=(q1cd C v).eval fun y=>some (q1cc y):=by kernel_rfl
abbrev q1cf:Type:=Int×Nat×List Diii
def q1cg (v:q1cf):St:=⟨[(0,.rs 0),(7,i6 v.1)],[.pref 1 v.2.1,.rows Riii v.2.2]⟩
def q1ch (C:q1bu) (v:q1cb):Dt q1cf:=(Dt.ite (decide (0<=v.1)&&decide (v.1<=(List.length v.2.2.2:Int))) (Dt.ite (decide (0<=v.2.1)&&decide (v.2.1<(List.length v.2.2.2:Int))) (Dt.ite (Nat.ble (v.1).toNat (v.2.1).toNat) (Dt.ret (v.2.2.1,((v.1).toNat+(List.length v.2.2.2-(v.2.1).toNat)),(List.take (v.1).toNat v.2.2.2++(List.drop (v.2.1).toNat v.2.2.2++List.drop ((v.1).toNat+(List.length v.2.2.2-(v.2.1).toNat)) v.2.2.2)))) Dt.fail) (Dt.ite (decide (v.2.1=(List.length v.2.2.2:Int))) (Dt.ret (v.2.2.1,(v.1).toNat,v.2.2.2)) Dt.fail)) Dt.fail)
theorem q1ci (C:q1bu) (v:q1cb):treg (litT 47 tysT) (orc (q1bw C)) 33 (regO (qeu f202) 5) true [(0,.any),(7,.any)] (q1cc v) some=(q1ch C v).eval fun y=>some (q1cg y):=by kernel_rfl
abbrev q1cj:Type:=Nat×List Diii
def q1ck (v:q1cj):St:=⟨[(0,.rs 0)],[.pref 1 v.1,.rows Riii v.2]⟩
def q1cl (C:q1bu) (v:q1cf):Dt q1cj:=(Dt.ite (decide (0<=((v.2.1:Nat):Int))&&decide (((v.2.1:Nat):Int)<(List.length v.2.2:Int))&&decide (v.1=(List.length v.2.2:Int))) (Dt.ite (Nat.ble (((v.2.1:Nat):Int)).toNat (List.length v.2.2)) (Dt.ret (v.2.1,(List.take (((v.2.1:Nat):Int)).toNat v.2.2++List.replicate (List.length v.2.2-(((v.2.1:Nat):Int)).toNat) ziii))) Dt.fail) Dt.fail)
theorem q1cm (C:q1bu) (v:q1cf):treg (litT 47 tysT) (orc (q1bw C)) 33 (regO (qeu f202) 6) false [(0,.any)] (q1cg v) some=(q1cl C v).eval fun y=>some (q1ck y):=by kernel_rfl
def q1cn (C:q1bu) (v:q1cj):Dt q1c7:=(Dt.ret (List.take v.1 v.2))
theorem q1co (C:q1bu) (v:q1cj):treg (litT 47 tysT) (orc (q1bw C)) 33 (regO (qeu f202) 7) false [(6,(.own Riii))] (q1ck v) some=(q1cn C v).eval fun y=>some (q1c8 y):=by kernel_rfl
def q1cp (d:Nat) (x:q1br):Option q1bs :=
 (q1bz (q1bv d) (x.2.1.1.1,x.2.1.2.1.1,x.2.2)).eval fun y0 =>
 (q1c1 (q1bv d) y0).eval fun y1 =>
 (q1c5 (q1bv d) y1).eval fun y2 =>
 bif y2.2.2.1 then ((q1c9 (q1bv d) y2).eval fun y3 =>
 some y3) else ((q1cd (q1bv d) y2).eval fun y4 =>
 (q1ch (q1bv d) y4).eval fun y5 =>
 (q1cl (q1bv d) y5).eval fun y6 =>
 (q1cn (q1bv d) y6).eval fun y7 =>
 some y7)
theorem q1cq (d:Nat):COKC prog (q1bt (q1cp d)):=by
 have hm:prog.follows .mixedOrders=true:=mixed
 have hT:=q21 tys 47
 have hC0:OrcOK prog (orc (q1bw (q1bv d))):=qeo (by
  intro S hS
  simp only[q1bw,List.mem_cons,List.not_mem_nil,or_false]at hS
  all_goals first | cases hS | exact hS.elim)
 have hC:OrcOK prog (orc (q1bw (q1bv d))):=hC0
 refine qfp (c:=qeu f202) (fn:=f202) hT (by kernel_rfl) (by kernel_rfl) (by decide) fun x r h w0 φ0 Q hend=>?_
 replace h:q1cp d x=some r:=h
 unfold q1cp at h
 show Run prog w0 φ0 33 (qeu f202) ⟨[(0,.rs 0),(1,.int .i64 x.2.1.1.1),(2,.int .i64 x.2.1.2.1.1)],[.rows Riii x.2.2]⟩ Q
 refine q2n0 hm hT hC (q1c0 (q1bv d) (x.2.1.1.1,x.2.1.2.1.1,x.2.2)) h fun y0 h=>?_
 refine q2n0 hm hT hC (q1c2 (q1bv d) y0) h fun y1 h=>?_
 refine q9x ?_
 refine q2n0 hm hT hC (q1c6 (q1bv d) y1) h fun y2 h=>?_
 refine qa1 (v:=y2.2.2.1) (by kernel_rfl) h ?_ ?_
 ·
  intro h
  refine q2n0 hm hT hC (q1ca (q1bv d) y2) h fun y3 h=>?_
  refine q9w (q9l ?_)
  cases h
  exact (hend _ (by kernel_rfl)).2
 ·
  intro h
  refine q9t (q9j ?_)
  refine q2n0 hm hT hC (q1ce (q1bv d) y2) h fun y4 h=>?_
  refine q2n0 hm hT hC (q1ci (q1bv d) y4) h fun y5 h=>?_
  refine q2n0 hm hT hC (q1cm (q1bv d) y5) h fun y6 h=>?_
  refine q2n0 hm hT hC (q1co (q1bv d) y6) h fun y7 h=>?_
  refine q9w ?_
  cases h
  exact (hend _ (by kernel_rfl)).2
abbrev q1cr:List Pk:=[]
abbrev q1cs:List Pk:=[.row Ri false,.row Ri false]
abbrev q1ct:Type:=(Unit)×(Di×Di×Unit)×List Diii
abbrev q1cu:Type:=List Diii
def q1cv (F:q1ct->Option q1cu):CSpec:=⟨160,q1cr,q1cs,Riii,fun a b c=>F (a,b,c)⟩
abbrev q1cw:Type:=Unit
def q1cx (_d:Nat):q1cw:=()
def q1cy (C:q1cw):List Go.Tx.Spec:=[]
abbrev q1cz:Type:=Int×Int×List Diii
def q1d0 (v:q1cz):St:=⟨[(0,.rs 0),(1,i6 v.1),(2,i6 v.2.1)],[.rows Riii v.2.2]⟩
def q1d1 (C:q1cw) (v:q1cz):Dt q1cz:=(Dt.ret (v.1,v.2.1,v.2.2))
theorem q1d2 (C:q1cw) (v:q1cz):treg (litT 56 tysT) (orc (q1cy C)) 33 (regO (qeu f160) 0) false [(0,(.own Riii)),(1,.any),(2,.any)] (q1d0 v) some=(q1d1 C v).eval fun y=>some (q1d0 y):=by kernel_rfl
def q1d3 (C:q1cw) (v:q1cz):Dt q1cz:=(Dt.ite (decide (0<=v.1)&&decide (v.1<=v.2.1)&&decide (v.2.1<=(List.length v.2.2:Int))&&decide ((List.length v.2.2:Int)<=(List.length v.2.2:Int))) (Dt.ret (v.1,v.2.1,v.2.2)) Dt.fail)
theorem q1d4 (C:q1cw) (v:q1cz):treg (litT 56 tysT) (orc (q1cy C)) 33 (regO (qeu f160) 1) false [(0,(.own Riii)),(1,.any),(2,.any)] (q1d0 v) some=(q1d3 C v).eval fun y=>some (q1d0 y):=by kernel_rfl
abbrev q1d5:Type:=Int×Int×Bool×List Diii
def q1d6 (v:q1d5):St:=⟨[(0,.rs 0),(1,i6 v.1),(2,i6 v.2.1),(16,.bool v.2.2.1)],[.rows Riii v.2.2.2]⟩
def q1d7 (C:q1cw) (v:q1cz):Dt q1d5:=(Dt.ret (v.1,v.2.1,(v.1==v.2.1),v.2.2))
theorem q1d8 (C:q1cw) (v:q1cz):treg (litT 56 tysT) (orc (q1cy C)) 33 (regO (qeu f160) 2) false [(0,(.own Riii)),(1,.any),(2,.any),(16,.any)] (q1d0 v) some=(q1d7 C v).eval fun y=>some (q1d6 y):=by kernel_rfl
abbrev q1d9:Type:=List Diii
def q1da (v:q1d9):St:=⟨[(6,.rs 0)],[.rows Riii v]⟩
def q1db (C:q1cw) (v:q1d5):Dt q1d9:=(Dt.ret v.2.2.2)
theorem q1dc (C:q1cw) (v:q1d5):treg (litT 56 tysT) (orc (q1cy C)) 33 (regO (qeu f160) 3) false [(6,(.own Riii))] (q1d6 v) some=(q1db C v).eval fun y=>some (q1da y):=by kernel_rfl
abbrev q1dd:Type:=Int×Int×Int×List Diii
def q1de (v:q1dd):St:=⟨[(0,.rs 0),(1,i6 v.1),(2,i6 v.2.1),(7,i6 v.2.2.1)],[.rows Riii v.2.2.2]⟩
def q1df (C:q1cw) (v:q1d5):Dt q1dd:=(Dt.ret (v.1,v.2.1,(List.length v.2.2.2:Int),v.2.2.2))
theorem q1dg (C:q1cw) (v:q1d5):treg (litT 56 tysT) (orc (q1cy C)) 33 (regO (qeu f160) 4) false [(0,(.own Riii)),(1,.any),(2,.any),(7,.any)] (q1d6 v) some=(q1df C v).eval fun y=>some (q1de y):=by kernel_rfl
abbrev q1dh:Type:=Int×Nat×List Diii
def q1di (v:q1dh):St:=⟨[(0,.rs 0),(7,i6 v.1)],[.pref 1 v.2.1,.rows Riii v.2.2]⟩
def q1dj (C:q1cw) (v:q1dd):Dt q1dh:=(Dt.ite (decide (0<=v.1)&&decide (v.1<=(List.length v.2.2.2:Int))) (Dt.ite (decide (0<=v.2.1)&&decide (v.2.1<(List.length v.2.2.2:Int))) (Dt.ite (Nat.ble (v.1).toNat (v.2.1).toNat) (Dt.ret (v.2.2.1,((v.1).toNat+(List.length v.2.2.2-(v.2.1).toNat)),(List.take (v.1).toNat v.2.2.2++(List.drop (v.2.1).toNat v.2.2.2++List.drop ((v.1).toNat+(List.length v.2.2.2-(v.2.1).toNat)) v.2.2.2)))) Dt.fail) (Dt.ite (decide (v.2.1=(List.length v.2.2.2:Int))) (Dt.ret (v.2.2.1,(v.1).toNat,v.2.2.2)) Dt.fail)) Dt.fail)
theorem q1dk (C:q1cw) (v:q1dd):treg (litT 56 tysT) (orc (q1cy C)) 33 (regO (qeu f160) 5) true [(0,.any),(7,.any)] (q1de v) some=(q1dj C v).eval fun y=>some (q1di y):=by kernel_rfl
abbrev q1dl:Type:=Nat×List Diii
def q1dm (v:q1dl):St:=⟨[(0,.rs 0)],[.pref 1 v.1,.rows Riii v.2]⟩
def q1dn (C:q1cw) (v:q1dh):Dt q1dl:=(Dt.ite (decide (0<=((v.2.1:Nat):Int))&&decide (((v.2.1:Nat):Int)<(List.length v.2.2:Int))&&decide (v.1=(List.length v.2.2:Int))) (Dt.ite (Nat.ble (((v.2.1:Nat):Int)).toNat (List.length v.2.2)) (Dt.ret (v.2.1,(List.take (((v.2.1:Nat):Int)).toNat v.2.2++List.replicate (List.length v.2.2-(((v.2.1:Nat):Int)).toNat) ziii))) Dt.fail) Dt.fail)
theorem q1do (C:q1cw) (v:q1dh):treg (litT 56 tysT) (orc (q1cy C)) 33 (regO (qeu f160) 6) false [(0,.any)] (q1di v) some=(q1dn C v).eval fun y=>some (q1dm y):=by kernel_rfl
def q1dp (C:q1cw) (v:q1dl):Dt q1d9:=(Dt.ret (List.take v.1 v.2))
theorem q1dq (C:q1cw) (v:q1dl):treg (litT 56 tysT) (orc (q1cy C)) 33 (regO (qeu f160) 7) false [(6,(.own Riii))] (q1dm v) some=(q1dp C v).eval fun y=>some (q1da y):=by kernel_rfl
def q1dr (d:Nat) (x:q1ct):Option q1cu :=
 (q1d1 (q1cx d) (x.2.1.1.1,x.2.1.2.1.1,x.2.2)).eval fun y0 =>
 (q1d3 (q1cx d) y0).eval fun y1 =>
 (q1d7 (q1cx d) y1).eval fun y2 =>
 bif y2.2.2.1 then ((q1db (q1cx d) y2).eval fun y3 =>
 some y3) else ((q1df (q1cx d) y2).eval fun y4 =>
 (q1dj (q1cx d) y4).eval fun y5 =>
 (q1dn (q1cx d) y5).eval fun y6 =>
 (q1dp (q1cx d) y6).eval fun y7 =>
 some y7)
theorem q1ds (d:Nat):COKC prog (q1cv (q1dr d)):=by
 have hm:prog.follows .mixedOrders=true:=mixed
 have hT:=q21 tys 56
 have hC0:OrcOK prog (orc (q1cy (q1cx d))):=qeo (by
  intro S hS
  simp only[q1cy,List.mem_cons,List.not_mem_nil,or_false]at hS
  all_goals first | cases hS | exact hS.elim)
 have hC:OrcOK prog (orc (q1cy (q1cx d))):=hC0
 refine qfp (c:=qeu f160) (fn:=f160) hT (by kernel_rfl) (by kernel_rfl) (by decide) fun x r h w0 φ0 Q hend=>?_
 replace h:q1dr d x=some r:=h
 unfold q1dr at h
 show Run prog w0 φ0 33 (qeu f160) ⟨[(0,.rs 0),(1,.int .i64 x.2.1.1.1),(2,.int .i64 x.2.1.2.1.1)],[.rows Riii x.2.2]⟩ Q
 refine q2n0 hm hT hC (q1d2 (q1cx d) (x.2.1.1.1,x.2.1.2.1.1,x.2.2)) h fun y0 h=>?_
 refine q2n0 hm hT hC (q1d4 (q1cx d) y0) h fun y1 h=>?_
 refine q9x ?_
 refine q2n0 hm hT hC (q1d8 (q1cx d) y1) h fun y2 h=>?_
 refine qa1 (v:=y2.2.2.1) (by kernel_rfl) h ?_ ?_
 ·
  intro h
  refine q2n0 hm hT hC (q1dc (q1cx d) y2) h fun y3 h=>?_
  refine q9w (q9l ?_)
  cases h
  exact (hend _ (by kernel_rfl)).2
 ·
  intro h
  refine q9t (q9j ?_)
  refine q2n0 hm hT hC (q1dg (q1cx d) y2) h fun y4 h=>?_
  refine q2n0 hm hT hC (q1dk (q1cx d) y4) h fun y5 h=>?_
  refine q2n0 hm hT hC (q1do (q1cx d) y5) h fun y6 h=>?_
  refine q2n0 hm hT hC (q1dq (q1cx d) y6) h fun y7 h=>?_
  refine q9w ?_
  cases h
  exact (hend _ (by kernel_rfl)).2
abbrev q1dt:Type:=Du×Du×Unit
abbrev q1du:Type:=Int×Int
noncomputable def q1dv (d:Nat):Ent:=⟨tysT,(orc [qsg (qsi d)]),f146,mkPl [] [([0],[0,1]),([3],[8,9]),([4],[4,5])] [] [],d,146,[.row Ru false,.row Ru false],(.tup [.undef,.undef]),[.i .u64,.i .u64]⟩
theorem q1dw (d:Nat):COK prog (q1dv d).s:=Ent.k mixed tys (qeo (ac1 (qsk d) ac0)) ⟨by kernel_rfl,by kernel_rfl,by kernel_rfl⟩
noncomputable def q1dx (d:Nat) (x:q1dt):Option q1du:=(q1dv d).F x
def q1dy (d:Nat):q1dt->Option q1du:=fun ((xAa,_),(xBa,_),_) =>
 (obnd (qsi d ((xAa,()),(xBa,()),())) fun (r1a,r1b)=>some (r1a,r1b))
theorem q1dz (d:Nat) (x:q1dt):q1dx d x=q1dy d x:=by kernel_rfl
abbrev q1e0:Type:=DLiE×Di×Unit
abbrev q1e1:Type:=List Di
noncomputable def q1e2 (d:Nat):Ent:=⟨(litT 44 tysT),(orc [(q1dv d).s]),f79,mkPl [(0,(.val Ri)),(4,(.own Ri)),(7,(.own Ri))] [([0],[0,1]),([1],[0,1,10]),([3],[0,5,6]),([4],[0,6,26]),([6],[0,7]),([7,9],[7,8]),([8],[7,8,37]),([10],[4])] [] [(8,[7,8])],d,79,[.row RLiE false,.row Ri false],.undef,[.o Ri]⟩
theorem q1e3 (d:Nat):COK prog (q1e2 d).s:=Ent.k mixed (q21 tys 44) (qeo (ac1 (q1dw d) ac0)) ⟨by kernel_rfl,by kernel_rfl,by kernel_rfl⟩
noncomputable def q1e4 (d:Nat) (x:q1e0):Option q1e1:=(q1e2 d).F x
abbrev q1e5:Type:=Int×List Di
def q1e6 (d:Nat) (self1:q1e5->Option q1e1):q1e5->Option q1e1:=fun (x1a,x1b) =>
 (bif (decide (x1a<(x1b.length:Int))) then (obif (decide (0<=x1a)&&decide (x1a<(x1b.length:Int))) (obif (decide (0<=x1a)&&decide (x1a<=(x1b.length:Int))) (obif (Nat.blt 0 x1b.length) (self1 ((wi (x1a+(Nat.min (List.length (List.take x1a.toNat x1b)) (List.length x1b-x1a.toNat):Int))),(List.take x1a.toNat x1b++(List.take (List.length x1b-x1a.toNat) (List.take x1a.toNat x1b)++List.drop (x1a.toNat+List.length (List.take x1a.toNat x1b)) x1b)))) none) none) (obif (decide (x1a=(x1b.length:Int))) (obif (decide (0<=x1a)&&decide (x1a<=(x1b.length:Int))) none none) none)) else some x1b)
def q1e7:q1e5->St:=fun (x1a,x1b)=>⟨[(7,.rs 0),(8,i6 x1a)],[.rows Ri x1b]⟩
def q1e8 (d:Nat) (L1_g:q1e5->Option q1e1):(List Di×Int×Bool)->Option q1e1:=fun (ya,yb,_) =>
 (obif (mkB (IntKind.wrap .i64 yb) (IntKind.wrap .i64 yb)) (let a2:=(List.replicate (IntKind.wrap .i64 yb).toNat zi);(obif (Nat.blt 0 a2.length) (L1_g ((Nat.min ya.length a2.length:Int),(List.take a2.length ya++List.drop ya.length a2))) none)) none)
def q1e9 (d:Nat) (L1_g:q1e5->Option q1e1):(List Di×Int×Bool)->Option q1e1:=fun (ya,yb,yc) =>
 (bif yc then none else (q1e8 d L1_g (ya,yb,yc)))
def q1ea (d:Nat) (L1_g:q1e5->Option q1e1):(List Di×Int×Bool)->Option q1e1:=fun (ya,yb,_) =>
 (obnd (q1dx d (((IntKind.wrap .u64 (ya.length:Int)),()),((IntKind.wrap .u64 yb),()),())) fun (r1a,r1b)=>(obif (decide (r1a>0)) (q1e9 d L1_g (ya,r1b,true)) (q1e9 d L1_g (ya,r1b,(decide (r1b>9223372036854775807))))))
theorem q1eb (d:Nat) (self1:St->Option q1e1) (x:q1e5):(q1e2 d).b 8 [] self1 (q1e7 x)=q1e6 d (fun y=>self1 (q1e7 y)) x:=by kernel_rfl
def q1ec (d:Nat) (L1_g:q1e5->Option q1e1):q1e0->Option q1e1:=fun ((xAa,_),(xBa,_),_) =>
 (let a1:=(decide (xBa<0));(bif a1 then none else (q1ea d L1_g (xAa,xBa,a1))))
theorem q1ed (d:Nat) (x:q1e0):q1e4 d x=q1ec d (iter (q1e6 d) d) x:=by
 have h:q1e4 d x=q1ec d (fun y=>iter ((q1e2 d).b 8 []) d (q1e7 y)) x:=by kernel_rfl
 rw[h];congr 1<;>(funext y;first | rfl | exact qfi (q1eb d) d y)
abbrev q1ee:Type:=Dii×Unit
abbrev q1ef:Type:=Bool
noncomputable def q1eg (d:Nat):Ent:=⟨tysT,(orc []),f82,mkPl [] [([0],[1]),([1],[2])] [] [],d,82,[.row Rii true],.undef,[.bo]⟩
theorem q1eh (d:Nat):COK prog (q1eg d).s:=Ent.k mixed tys (qeo ac0) ⟨by kernel_rfl,by kernel_rfl,by kernel_rfl⟩
noncomputable def q1ei (d:Nat) (x:q1ee):Option q1ef:=(q1eg d).F x
def q1ej (d:Nat):q1ee->Option q1ef:=fun ((xAa,xAb,_),_) =>
 (obif (decide ((tmin xAa xAb)≥0)) (obif (decide ((tmax xAa xAb)<=65535)) (some (xAa != xAb)) (some false)) (some false))
theorem q1ek (d:Nat) (x:q1ee):q1ei d x=q1ej d x:=by kernel_rfl
abbrev q1el:Type:=qig×Unit
abbrev q1em:Type:=Int
noncomputable def q1en (d:Nat):Ent:=⟨tysT,(orc [(q1eg d).s]),f80,mkPl [(1,(.box [.any,.val Riii])),(23,(.val Riii))] [([0],[1]),([1],[1,20]),([3],[1,3,4]),([4,9,10],[1,3,4,23,24,25]),([5],[1,3,4,23,24,25,26]),([6],[1,3,4,6,23,24,25]),([7],[1,3,6,23,24,25,51]),([11],[2])] [] [(5,[1,3,4,23,24,25])],d,80,[.row qif true],.undef,[.i .i64]⟩
theorem q1eo (d:Nat):COK prog (q1en d).s:=Ent.k mixed tys (qeo (ac1 (q1eh d) ac0)) ⟨by kernel_rfl,by kernel_rfl,by kernel_rfl⟩
noncomputable def q1ep (d:Nat) (x:q1el):Option q1em:=(q1en d).F x
abbrev q1eq:Type:=Int×List Diii×Int×Int×Int×List Diii×List (List Int×Db)
def q1er (d:Nat) (self1:q1eq->Option q1em):(List Diii×Int×Int×Bool×Int×List Diii×List (List Int×Db)×Int×Int×Int)->Option q1em:=fun (ya,yb,yc,yd,ye,yf,yg,yh,yi,yj) =>
 (bif yd then none else (self1 (yh,ya,yb,(wi (yc+1)),ye,yf,(mput (.agg 2) Rb yg [yi,yj] (true,())))))
def q1es (d:Nat) (self1:q1eq->Option q1em):q1eq->Option q1em:=fun (x1a,x1b,x1c,x1d,x1e,x1f,x1g) =>
 (bif (decide (x1d<x1c)) then (obif (inB x1d x1b.length) (let e1:=(elt ziii x1b x1d.toNat);(obnd (q1ei d ((e1.2.1,e1.2.2.1,()),())) fun r2=>(obif (!r2) (q1er d self1 (x1b,x1c,x1d,true,x1e,x1f,x1g,e1.1,e1.2.1,e1.2.2.1)) (obif (mget (.agg 2) Rb x1g [e1.2.1,e1.2.2.1]).1 (q1er d self1 (x1b,x1c,x1d,true,x1e,x1f,x1g,e1.1,e1.2.1,e1.2.2.1)) (obif (decide (e1.1<=x1a)) (q1er d self1 (x1b,x1c,x1d,true,x1e,x1f,x1g,e1.1,e1.2.1,e1.2.2.1)) (q1er d self1 (x1b,x1c,x1d,(decide (e1.1≥x1e)),x1e,x1f,x1g,e1.1,e1.2.1,e1.2.2.1))))))) none) else some 0)
def q1et:q1eq->St:=fun (x1a,x1b,x1c,x1d,x1e,x1f,x1g)=>⟨[(1,.ptr 0 0),(3,.mp 1),(4,i6 x1a),(23,.fz Riii x1b),(24,i6 x1c),(25,i6 x1d)],[.cells [i6 x1e,.fz Riii x1f],.imap (.agg 2) false Rb x1g]⟩
def q1eu (d:Nat) (L1_g:q1eq->Option q1em):(Bool×Int×List Diii)->Option q1em:=fun (ya,yb,yc) =>
 (bif ya then none else (L1_g ((-1:Int),yc,(yc.length:Int),0,yb,yc,([]:List (List Int×Db)))))
theorem q1ev (d:Nat) (self1:St->Option q1em) (x:q1eq):(q1en d).b 5 [] self1 (q1et x)=q1es d (fun y=>self1 (q1et y)) x:=by kernel_rfl
def q1ew (d:Nat) (L1_g:q1eq->Option q1em):q1el->Option q1em:=fun ((xAa,xAb,_),_) =>
 (obif (decide ((xAb.length:Int)>200)) (q1eu d L1_g (true,xAa,xAb)) (obif (decide (xAa<0)) (q1eu d L1_g (true,xAa,xAb)) (q1eu d L1_g ((decide (xAa>1000000)),xAa,xAb))))
theorem q1ex (d:Nat) (x:q1el):q1ep d x=q1ew d (iter (q1es d) d) x:=by
 have h:q1ep d x=q1ew d (fun y=>iter ((q1en d).b 5 []) d (q1et y)) x:=by kernel_rfl
 rw[h];congr 1<;>(funext y;first | rfl | exact qfi (q1ev d) d y)
abbrev q1ey:Type:=Diii×Dii×Unit
abbrev q1ez:Type:=Bool
noncomputable def q1f0 (d:Nat):Ent:=⟨tysT,(orc []),f84,mkPl [] [([0],[1,2]),([1],[3])] [] [],d,84,[.row Riii true,.ref Rii],.undef,[.bo]⟩
theorem q1f1 (d:Nat):COK prog (q1f0 d).s:=Ent.k mixed tys (qeo ac0) ⟨by kernel_rfl,by kernel_rfl,by kernel_rfl⟩
noncomputable def q1f2 (d:Nat) (x:q1ey):Option q1ez:=(q1f0 d).F x
def q1f3 (d:Nat):q1ey->Option q1ez:=fun ((_,xAb,xAc,_),xB,_) =>
 (some ((xAb==xB.1)&&((xAc==xB.2.1)&&true)))
theorem q1f4 (d:Nat) (x:q1ey):q1f2 d x=q1f3 d x:=by kernel_rfl
abbrev q1f5:Type:=qhy×(Dii×Unit)×Unit
abbrev q1f6:Type:=Int
noncomputable def q1f7 (d:Nat):Ent:=⟨tysT,(orc [(q1f0 d).s]),f148,mkPl [(0,(.val Riii))] [([0],[0,1]),([1,6],[0,1,7,8]),([2],[0,1,7,8,9]),([3],[0,1,5,7,8]),([4],[0,1,5,7,8,16]),([5,7],[4])] [] [(2,[0,1,7,8])],d,148,[.row qhx false,.fn 84 [Rii]],.undef,[.i .i64]⟩
theorem q1f8 (d:Nat):COK prog (q1f7 d).s:=Ent.k mixed tys (qeo (ac1 (q1f1 d) ac0)) ⟨by kernel_rfl,by kernel_rfl,by kernel_rfl⟩
noncomputable def q1f9 (d:Nat) (x:q1f5):Option q1f6:=(q1f7 d).F x
abbrev q1fa:Type:=List Diii×Dii×Int×Int
def q1fb (d:Nat) (self1:q1fa->Option q1f6):q1fa->Option q1f6:=fun (x1a,x1b,x1c,x1d) =>
 (bif (decide (x1d<x1c)) then (obif (inB x1d x1a.length) (let e1:=(elt ziii x1a x1d.toNat);(obnd (q1f2 d ((e1.1,e1.2.1,e1.2.2.1,()),x1b,())) fun r2=>(bif r2 then some x1d else (self1 (x1a,x1b,x1c,(wi (x1d+1))))))) none) else some (-1:Int))
def q1fc:q1fa->St:=fun (x1a,x1b,x1c,x1d)=>⟨[(0,.fz Riii x1a),(1,.fn 84 [.fp Rii x1b 0]),(7,i6 x1c),(8,i6 x1d)],[]⟩
theorem q1fd (d:Nat) (self1:St->Option q1f6) (x:q1fa):(q1f7 d).b 2 [] self1 (q1fc x)=q1fb d (fun y=>self1 (q1fc y)) x:=by kernel_rfl
def q1fe (d:Nat) (L1_g:q1fa->Option q1f6):q1f5->Option q1f6:=fun ((xAa,_),(xBa,_),_) =>
 (L1_g (xAa,xBa,(xAa.length:Int),0))
theorem q1ff (d:Nat) (x:q1f5):q1f9 d x=q1fe d (iter (q1fb d) d) x:=by
 have h:q1f9 d x=q1fe d (fun y=>iter ((q1f7 d).b 2 []) d (q1fc y)) x:=by kernel_rfl
 rw[h];congr 1<;>(funext y;first | rfl | exact qfi (q1fd d) d y)
abbrev q1fg:Type:=qhy×(Dii×Unit)×Unit
abbrev q1fh:Type:=Bool
noncomputable def q1fi (d:Nat):Ent:=⟨tysT,(orc [(q1f7 d).s]),f83,mkPl [(0,(.val Riii))] [([0],[0,1]),([1],[4])] [] [],d,83,[.row qhx false,.fn 84 [Rii]],.undef,[.bo]⟩
theorem q1fj (d:Nat):COK prog (q1fi d).s:=Ent.k mixed tys (qeo (ac1 (q1f8 d) ac0)) ⟨by kernel_rfl,by kernel_rfl,by kernel_rfl⟩
noncomputable def q1fk (d:Nat) (x:q1fg):Option q1fh:=(q1fi d).F x
def q1fl (d:Nat):q1fg->Option q1fh:=fun ((xAa,_),(xBa,_),_) =>
 (obnd (q1f9 d ((xAa,()),(xBa,()),())) fun r1=>(some (decide (r1≥0))))
theorem q1fm (d:Nat) (x:q1fg):q1fk d x=q1fl d x:=by kernel_rfl
abbrev q1fn:Type:=qig×Dii×Unit
abbrev q1fo:Type:=Int×List Diii×Int×Int
noncomputable def q1fp (d:Nat):Ent:=⟨tysT,(orc [(q1en d).s,(q1eg d).s,(q1fi d).s,q12i (q12j d)]),f32,mkPl [(2,(.box [.any,.val Riii])),(4,(.box [.any,.own Riii])),(8,(.own Riii))] [([0],[2,3,4]),([1],[2,3,4,7]),([2],[2,3,4,12]),([4],[2,3,4,17]),([6],[2,3,4,22]),([8],[2,3,4,32]),([10],[2,4,8]),([11],[4,5,6])] [] [],d,32,[.row qif true,.row Rii true],(.tup [(.agg [.undef,.undef]),.undef,.undef]),[.i .i64,.o Riii,.i .i64,.i .i64]⟩
theorem q1fq (d:Nat):COK prog (q1fp d).s:=Ent.k mixed tys (qeo (ac1 (q1eo d) (ac1 (q1eh d) (ac1 (q1fj d) (ac1 (q12k d) ac0))))) ⟨by kernel_rfl,by kernel_rfl,by kernel_rfl⟩
noncomputable def q1fr (d:Nat) (x:q1fn):Option q1fo:=(q1fp d).F x
def q1fs (d:Nat):(Bool×Int×List Diii×Int×Int×Int×List Diii)->Option q1fo:=fun (ya,yb,yc,yd,ye,_,_) =>
 (bif ya then none else (obnd (q12j d ((yc,()),())) fun r4=>(obif (apB r4.length (List.length ([(yb,yd,ye,())]:List Diii))) (some ((wi (yb+1)),(r4++([(yb,yd,ye,())]:List Diii)),yb,0)) none)))
def q1ft (d:Nat):q1fn->Option q1fo:=fun ((xAa,xAb,_),(xBa,xBb,_),_) =>
 (let a1:=([]:List Diii);(obnd (q1ep d ((xAa,xAb,()),())) fun r1=>(bif (r1 != 0) then none else (obnd (q1ei d ((xBa,xBb,()),())) fun r2=>(bif (!r2) then none else (obnd (q1fk d ((xAb,()),((xBa,xBb,()),()),())) fun r3=>(bif r3 then none else (obif ((xAb.length:Int)==200) (q1fs d (true,xAa,xAb,xBa,xBb,0,a1)) (q1fs d ((xAa==1000000),xAa,xAb,xBa,xBb,0,a1))))))))))
theorem q1fu (d:Nat) (x:q1fn):q1fr d x=q1ft d x:=by kernel_rfl
abbrev q1fv:Type:=Diii×Di×Unit
abbrev q1fw:Type:=Int
noncomputable def q1fx (d:Nat):Ent:=⟨tysT,(orc [(q17z d).s]),f226,mkPl [] [([0],[1,2]),([1],[4])] [] [],d,226,[.row Riii true,.row Ri false],.undef,[.i .i64]⟩
theorem q1fy (d:Nat):COK prog (q1fx d).s:=Ent.k mixed tys (qeo (ac1 (q180 d) ac0)) ⟨by kernel_rfl,by kernel_rfl,by kernel_rfl⟩
noncomputable def q1fz (d:Nat) (x:q1fv):Option q1fw:=(q1fx d).F x
def q1g0 (d:Nat):q1fv->Option q1fw:=fun ((xAa,_,_,_),(xBa,_),_) =>
 (obnd (q181 d ((xAa,()),(xBa,()),())) fun r1=>some r1)
theorem q1g1 (d:Nat) (x:q1fv):q1fz d x=q1g0 d x:=by kernel_rfl
abbrev q1g2:Type:=qhy×Di×(Unit)×Unit
abbrev q1g3:Type:=Int×Bool
noncomputable def q1g4 (d:Nat):Ent:=⟨tysT,(orc [(q1fx d).s]),f225,mkPl [(0,(.val Riii))] [([0],[0,1,2]),([1],[0,1,2,8]),([2,6,7],[0,1,2,8,9,10]),([3],[0,1,2,8,9,10,17]),([4],[0,1,2,8,9,10,11]),([5],[0,1,2,8,9,10,11,31]),([8],[6,7])] [] [(3,[0,1,2,8,9,10])],d,225,[.row qhx false,.row Ri false,.fn 226 []],(.tup [.undef,.undef]),[.i .i64,.bo]⟩
theorem q1g5 (d:Nat):COK prog (q1g4 d).s:=Ent.k mixed tys (qeo (ac1 (q1fy d) ac0)) ⟨by kernel_rfl,by kernel_rfl,by kernel_rfl⟩
noncomputable def q1g6 (d:Nat) (x:q1g2):Option q1g3:=(q1g4 d).F x
abbrev q1g7:Type:=List Diii×Int×Int×Int×Int
def q1g8 (d:Nat) (self1:q1g7->Option q1g3):q1g7->Option q1g3:=fun (x1a,x1b,x1c,x1d,x1e) =>
 (bif (decide (x1d<x1e)) then (let a3:=(wi (shrI .u64 (IntKind.wrap .u64 (wi (x1d+x1e))) 1));(obif (inB a3 x1a.length) (let e2:=(elt ziii x1a a3.toNat);(obnd (q1fz d ((e2.1,e2.2.1,e2.2.2.1,()),(x1b,()),())) fun r3=>(bif (decide (r3<0)) then (self1 (x1a,x1b,x1c,(wi (a3+1)),x1e)) else (self1 (x1a,x1b,x1c,x1d,a3))))) none)) else (obif (decide (x1d<x1c)) (obif (inB x1d x1a.length) (let e1:=(elt ziii x1a x1d.toNat);(obnd (q1fz d ((e1.1,e1.2.1,e1.2.2.1,()),(x1b,()),())) fun r2=>(some (x1d,(r2==0))))) none) (some (x1d,false))))
def q1g9:q1g7->St:=fun (x1a,x1b,x1c,x1d,x1e)=>⟨[(0,.fz Riii x1a),(1,i6 x1b),(2,.fn 226 []),(8,i6 x1c),(9,i6 x1d),(10,i6 x1e)],[]⟩
theorem q1ga (d:Nat) (self1:St->Option q1g3) (x:q1g7):(q1g4 d).b 3 [] self1 (q1g9 x)=q1g8 d (fun y=>self1 (q1g9 y)) x:=by kernel_rfl
def q1gb (d:Nat) (L1_g:q1g7->Option q1g3):q1g2->Option q1g3:=fun ((xAa,_),(xBa,_),_) =>
 (let a1:=(xAa.length:Int);(L1_g (xAa,xBa,a1,0,a1)))
theorem q1gc (d:Nat) (x:q1g2):q1g6 d x=q1gb d (iter (q1g8 d) d) x:=by
 have h:q1g6 d x=q1gb d (fun y=>iter ((q1g4 d).b 3 []) d (q1g9 y)) x:=by kernel_rfl
 rw[h];congr 1<;>(funext y;first | rfl | exact qfi (q1ga d) d y)
abbrev q1gd:Type:=qig×Di×Unit
abbrev q1ge:Type:=Int×Int
noncomputable def q1gf (d:Nat):Ent:=⟨tysT,(orc [(q1en d).s,(q1g4 d).s]),f201,mkPl [(2,(.box [.any,.val Riii]))] [([0],[1,2]),([1],[1,2,6]),([2],[1,2,12]),([4],[7,8]),([5],[7,22]),([7],[4,5])] [] [],d,201,[.row qif true,.row Ri false],(.tup [.undef,.undef]),[.i .i64,.i .i64]⟩
theorem q1gg (d:Nat):COK prog (q1gf d).s:=Ent.k mixed tys (qeo (ac1 (q1eo d) (ac1 (q1g5 d) ac0))) ⟨by kernel_rfl,by kernel_rfl,by kernel_rfl⟩
noncomputable def q1gh (d:Nat) (x:q1gd):Option q1ge:=(q1gf d).F x
def q1gi (d:Nat):q1gd->Option q1ge:=fun ((xAa,xAb,_),(xBa,_),_) =>
 (obnd (q1ep d ((xAa,xAb,()),())) fun r1=>(bif (r1 != 0) then none else (obnd (q1g6 d ((xAb,()),(xBa,()),(),())) fun (r2a,r2b)=>(bif (!r2b) then none else some (r2a,0)))))
theorem q1gj (d:Nat) (x:q1gd):q1gh d x=q1gi d x:=by kernel_rfl
abbrev q1gk:Type:=qig×Di×Unit
abbrev q1gl:Type:=Int×List Diii×Int×Int×Int
noncomputable def q1gm (d:Nat):Ent:=⟨tysT,(orcC (q1bt (q1cp d)) (orc [q12i (q12j d),(q1gf d).s])),f157,mkPl [(2,(.box [.any,.val Riii])),(4,(.box [.any,.own Riii]))] [([0],[1,2,4,5]),([1],[2,4,5,7,8]),([2],[2,4,5,7,16]),([4],[4,5,6])] [] [],d,157,[.row qif true,.row Ri false],(.tup [(.agg [.undef,.undef]),(.agg [.undef,.undef]),.undef]),[.i .i64,.o Riii,.i .i64,.i .i64,.i .i64]⟩
theorem q1gn (d:Nat):COK prog (q1gm d).s:=Ent.k mixed tys (qfn (q1cq d) rfl (qeo (ac1 (q12k d) (ac1 (q1gg d) ac0)))) ⟨by kernel_rfl,by kernel_rfl,by kernel_rfl⟩
noncomputable def q1go (d:Nat) (x:q1gk):Option q1gl:=(q1gm d).F x
def q1gp (d:Nat):q1gk->Option q1gl:=fun ((xAa,xAb,_),(xBa,_),_) =>
 (obnd (q1gh d ((xAa,xAb,()),(xBa,()),())) fun (r1a,r1b)=>(bif (r1b != 0) then none else (obnd (q12j d ((xAb,()),())) fun r2=>(obnd (q1cp d ((),((r1a,()),((wi (r1a+1)),()),()),r2)) fun r4=>(obif (inB r1a xAb.length) (let e5:=(elt ziii xAb r1a.toNat);some (xAa,r4,e5.2.1,e5.2.2.1,0)) none)))))
theorem q1gq (d:Nat) (x:q1gk):q1go d x=q1gp d x:=by kernel_rfl
abbrev q1gr:Type:=Di×Unit
abbrev q1gs:Type:=List Di×List Db×List Di×List qim×List Di×Int
noncomputable def q1gt (d:Nat):Ent:=⟨tysT,(orc [(q108 d).s,(q1e2 d).s]),f28,mkPl [(2,(.box [.own Ri,.own Rb,.own Ri,.own qil,.own Ri])),(4,(.box [.own Ri,.own Rb,.own Ri]))] [([0],[0,2]),([1],[0,2,4,5]),([2],[0,2,4,12]),([4],[2,3])] [] [],d,28,[.row Ri false],(.tup [(.agg [.undef,.undef,.undef,.undef,.undef]),.undef]),[.o Ri,.o Rb,.o Ri,.o qil,.o Ri,.i .i64]⟩
theorem q1gu (d:Nat):COK prog (q1gt d).s:=Ent.k mixed tys (qeo (ac1 (q109 d) (ac1 (q1e3 d) ac0))) ⟨by kernel_rfl,by kernel_rfl,by kernel_rfl⟩
noncomputable def q1gv (d:Nat) (x:q1gr):Option q1gs:=(q1gt d).F x
def q1gw (d:Nat):q1gr->Option q1gs:=fun ((xAa,_),_) =>
 (obnd (q10a d ((xAa,()),())) fun (r1a,r1b,r1c,r1d)=>(bif (r1d != 0) then none else (obnd (q1e4 d ((([((-1:Int),())]:List Di),()),(xAa,()),())) fun r2=>(some (r1a,r1b,r1c,([]:List qim),r2,0)))))
theorem q1gx (d:Nat) (x:q1gr):q1gv d x=q1gw d x:=by kernel_rfl
end
noncomputable section
abbrev q1gy:Type:=Int×Int×Bool×Int×Int×List (Int×Diii)
abbrev q1gz:Type:=Bool×Bool×Int×Int×List (Int×Diii)
noncomputable def q1h0 (d:Nat):GEnt:=⟨tysT,(orc [quz (qv1 d)]),f110,mkPl [] [([0],[1,2,3,4]),([1],[1,2,3,4,6,7]),([2],[1,2,3,6,7,8,9]),([3],[1,2,3,6,8]),([4],[1,2,3,10,11]),([5],[1,2,3,5])] [] [],d,110,[1,2,3],3,(.tup [.tup [.agg [.undef,.undef],.ptr 0 0,.ptr 1 0,.ptr 2 0],.tup [.agg [.mp 3],.agg [.undef],.agg [.undef,.undef],.fn 1 [.undef]]]),[.i .i64,.i .i64,.bo,.i .i64,.i .i64,.z (.int .i64 Riii)],(.tup [.undef,.tup [.agg [.mp 3],.agg [.undef],.agg [.undef,.undef],.fn 1 [.undef]]]),[.bo,.bo,.i .i64,.i .i64,.z (.int .i64 Riii)]⟩
theorem q1h1 (d:Nat):COKG prog (q1h0 d).s:=GEnt.k mixed tys (qeo (ac1 (qv3 d) ac0)) ⟨by kernel_rfl,by kernel_rfl,by kernel_rfl⟩ (by kernel_rfl) fun r=>⟨by kernel_rfl,by kernel_rfl⟩
noncomputable def q1h2 (d:Nat) (x:q1gy):Option q1gz:=(q1h0 d).F x
def q1h3 (d:Nat):(List (Int×Diii)×Bool×Int×Int×Int×Int×Int×Int×Int×Int)->Option q1gz:=fun (ya,yb,yc,yd,ye,yf,yg,yh,yi,yj) =>
 (obnd (qv1 d ((ye,yf,yg,()),(yh,yi,yj,()),(yc,yd,()),())) fun (r1a,r1b)=>(obif (r1b==0) (some (r1a,yb,yc,yd,ya)) (some (false,yb,yc,yd,ya))))
def q1h4 (d:Nat):q1gy->Option q1gz:=fun (xa,xb,xc,xd,xe,xf) =>
 (obif (true&&(true&&(true&&true))) (let a2:=(mget (.int .i64) Riii xf xb).1;(let a3:=(mget (.int .i64) Riii xf xb).2.1;(let a4:=(mget (.int .i64) Riii xf xb).2.2.1;(let a6:=(mget (.int .i64) Riii xf xa).1;(let a7:=(mget (.int .i64) Riii xf xa).2.1;(let a8:=(mget (.int .i64) Riii xf xa).2.2.1;(obif xc (q1h3 d (xf,true,xd,xe,a2,a3,a4,a6,a7,a8)) (obif (!(mhas (.int .i64) Riii xf xb)) (q1h3 d (xf,true,xd,xe,a2,a3,a4,a6,a7,a8)) (q1h3 d (xf,(!(mhas (.int .i64) Riii xf xa)),xd,xe,a2,a3,a4,a6,a7,a8)))))))))) none)
theorem q1h5 (d:Nat) (x:q1gy):q1h2 d x=q1h4 d x:=by kernel_rfl
abbrev q1h6:Type:=Int×List Diii×Bool×Int×Int×List (Int×Diii)
abbrev q1h7:Type:=Bool×Int×Int×List (Int×Diii)×List Di
noncomputable def q1h8 (d:Nat):GEnt:=⟨tysT,(orcG (q1h0 d).s (orc [])),f109,mkPl [(2,(.box [.any,.val Riii])),(4,(.own Ri)),(5,(.own Ri)),(9,(.val Riii))] [([0],[1,2]),([1],[1,2,5]),([2,6,7],[1,5,9,10,11]),([3],[1,5,9,10,11,12]),([4],[1,5,7,9,10,11]),([5],[1,5,7,9,10,11,18]),([8],[1,4])] [] [(3,[1,5,9,10,11])],d,109,[1],3,(.tup [.tup [.agg [.undef,.undef],.fn 110 [.ptr 0 0,.ptr 1 0,.ptr 2 0]],.tup [.agg [.mp 3],.agg [.undef],.agg [.undef,.undef],.fn 1 [.undef]]]),[.i .i64,.z Riii,.bo,.i .i64,.i .i64,.z (.int .i64 Riii)],(.tup [.rs 4,.tup [.agg [.mp 3],.agg [.undef],.agg [.undef,.undef],.fn 1 [.undef],.undef]]),[.bo,.i .i64,.i .i64,.z (.int .i64 Riii),.z Ri]⟩
theorem q1h9 (d:Nat):COKG prog (q1h8 d).s:=GEnt.k mixed tys (qh2 (q1h1 d) (qeo ac0)) ⟨by kernel_rfl,by kernel_rfl,by kernel_rfl⟩ (by kernel_rfl) fun r=>⟨by kernel_rfl,by kernel_rfl⟩
noncomputable def q1ha (d:Nat) (x:q1h6):Option q1h7:=(q1h8 d).F x
abbrev q1hb:Type:=List Diii×Int×Int×List (Int×Diii)×Bool×Int×Int×List Di
def q1hc (d:Nat) (self1:q1hb->Option q1h7):(List Diii×Int×Int×List (Int×Diii)×Bool×Int×Int×List Di)->Option q1h7:=fun (ya,yb,yc,yd,ye,yf,yg,yh) =>
 (self1 (ya,yb,(wi (yc+1)),yd,ye,yf,yg,yh))
def q1hd (d:Nat) (self1:q1hb->Option q1h7):q1hb->Option q1h7:=fun (x1a,x1b,x1c,x1d,x1e,x1f,x1g,x1h) =>
 (bif (decide (x1c<x1b)) then (obif (inB x1c x1a.length) (let e1:=(elt ziii x1a x1c.toNat);(obnd (q1h2 d (e1.2.1,e1.2.2.1,x1e,x1f,x1g,x1d)) fun (r2a,r2b,r2c,r2d,r2e)=>(bif r2a then (obif (apB x1h.length (List.length ([(e1.1,())]:List Di))) (q1hc d self1 (x1a,x1b,x1c,r2e,r2b,r2c,r2d,(x1h++([(e1.1,())]:List Di)))) none) else (q1hc d self1 (x1a,x1b,x1c,r2e,r2b,r2c,r2d,x1h))))) none) else some (x1e,x1f,x1g,x1d,x1h))
def q1he:q1hb->St:=fun (x1a,x1b,x1c,x1d,x1e,x1f,x1g,x1h)=>⟨[(1,.fn 110 [.ptr 0 0,.ptr 2 0,.ptr 3 0]),(5,.rs 4),(9,.fz Riii x1a),(10,i6 x1b),(11,i6 x1c)],[.cells [.mp 1],.imap (.int .i64) true Riii x1d,.cells [.bool x1e],.cells [i6 x1f,i6 x1g],.rows Ri x1h]⟩
theorem q1hf (d:Nat) (xx:q1h6) (self1:St->Option q1h7) (x:q1hb):(q1h8 d).b xx 3 [] self1 (q1he x)=q1hd d (fun y=>self1 (q1he y)) x:=by kernel_rfl
def q1hg (d:Nat) (L1_g:q1hb->Option q1h7):q1h6->Option q1h7:=fun (_,xb,xc,xd,xe,xf) =>
 (obif (true&&(true&&(true&&true))) (L1_g (xb,(xb.length:Int),0,xf,xc,xd,xe,([]:List Di))) none)
theorem q1hh (d:Nat) (x:q1h6):q1ha d x=q1hg d (iter (q1hd d) d) x:=by
 have h:q1ha d x=q1hg d (fun y=>iter ((q1h8 d).b x 3 []) d (q1he y)) x:=by kernel_rfl
 rw[h];congr 1<;>(funext y;first | rfl | exact qfi (q1hf d x) d y)
abbrev q1hi:Type:=qig×qhy×Dii×Unit
abbrev q1hj:Type:=List Di×Int
noncomputable def q1hk (d:Nat):Ent:=⟨tysT,(orcG (q1h8 d).s (orc [qv8 (qva d),qsy (qt0 d),(q1en d).s])),f46,mkPl [(3,(.box [.any,.val Riii])),(4,(.box [.val Riii])),(6,(.own Ri)),(15,(.own Ri)),(33,(.val Riii))] [([0],[3,4,5]),([1],[3,4,5,8]),([2],[3,4,5,19]),([4],[3,4,5,9]),([5],[3,4,5,24]),([7],[3,4,5,10]),([8],[3,4,5,29]),([10],[3,4,5,11]),([11,14,15],[3,5,11,33,34,35]),([12],[3,5,11,33,34,35,36]),([13],[3,5,11,13,33,34,35]),([16],[3,5,11,14]),([17],[14,15]),([18],[15,47]),([20],[6,7])] [] [(12,[3,5,11,33,34,35])],d,46,[.row qif true,.row qhx true,.row Rii true],(.tup [.undef,.undef]),[.o Ri,.i .i64]⟩
theorem q1hl (d:Nat):COK prog (q1hk d).s:=Ent.k mixed tys (qh2 (q1h9 d) (qeo (ac1 (qvc d) (ac1 (qt2 d) (ac1 (q1eo d) ac0))))) ⟨by kernel_rfl,by kernel_rfl,by kernel_rfl⟩
noncomputable def q1hm (d:Nat) (x:q1hi):Option q1hj:=(q1hk d).F x
abbrev q1hn:Type:=List Diii×Int×Int×Int×List Diii×Int×Int×List (Int×Diii)
def q1ho (d:Nat) (self1:q1hn->Option q1hj):q1hn->Option q1hj:=fun (x1a,x1b,x1c,x1d,x1e,x1f,x1g,x1h) =>
 (bif (decide (x1c<x1b)) then (obif (inB x1c x1a.length) (let e4:=(elt ziii x1a x1c.toNat);(self1 (x1a,x1b,(wi (x1c+1)),x1d,x1e,x1f,x1g,(mput (.int .i64) Riii x1h e4.1 (e4.1,e4.2.1,e4.2.2.1,()))))) none) else (obnd (q1ha d (x1d,x1e,false,x1f,x1g,x1h)) fun (r4a,_,_,_,r4e)=>(bif r4a then none else some (r4e,0))))
def q1hp:q1hn->St:=fun (x1a,x1b,x1c,x1d,x1e,x1f,x1g,x1h)=>⟨[(3,.ptr 0 0),(5,.ptr 1 0),(11,.ptr 2 0),(33,.fz Riii x1a),(34,i6 x1b),(35,i6 x1c)],[.cells [i6 x1d,.fz Riii x1e],.cells [i6 x1f,i6 x1g],.cells [.mp 3],.imap (.int .i64) true Riii x1h]⟩
theorem q1hq (d:Nat) (self1:St->Option q1hj) (x:q1hn):(q1hk d).b 12 [] self1 (q1hp x)=q1ho d (fun y=>self1 (q1hp y)) x:=by kernel_rfl
def q1hr (d:Nat) (L1_g:q1hn->Option q1hj):q1hi->Option q1hj:=fun ((xAa,xAb,_),(xBa,_),(xCa,xCb,_),_) =>
 (obnd (q1ep d ((xAa,xAb,()),())) fun r1=>(bif (r1 != 0) then none else (obnd (qva d ((xBa,()),())) fun r2=>(bif (r2 != 0) then none else (obnd (qt0 d ((xCa,xCb,()),())) fun r3=>(bif (r3 != 0) then none else (L1_g (xBa,(xBa.length:Int),0,xAa,xAb,xCa,xCb,([]:List (Int×Diii))))))))))
theorem q1hs (d:Nat) (x:q1hi):q1hm d x=q1hr d (iter (q1ho d) d) x:=by
 have h:q1hm d x=q1hr d (fun y=>iter ((q1hk d).b 12 []) d (q1hp y)) x:=by kernel_rfl
 rw[h];congr 1<;>(funext y;first | rfl | exact qfi (q1hq d) d y)
end
end Go.Proofs.YtfjjdnaggblaaaaGreat