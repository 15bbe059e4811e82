/- Walks of courses and of the sorts; the order as plain mathematics. -/
import Derived.Test.YtfjjdnaggblaaaaGreatProg
import Derived.ChangeKeysEq
import Derived.Lib.SliceRun
import Derived.Deep.Quiet
import Derived.Deep.QuietTactic
import Derived.StillTail
import Derived.BigQuiet
import Derived.ScopeJumps
import Derived.Laws.AppendOwn
import Derived.Laws.AppendOwnNone
import Derived.ArgAppend
import Derived.Deep.AppendLies
import Derived.Lib.Hide
import Derived.Laws.CopyRow
import Derived.Lib.AppendZerosOnto
import Derived.Lib.AppendZeros
import Derived.Lib.Overlaps
import Derived.Deep.DeepAppendRoom
import Derived.Deep.RegionHeld3
import Derived.Deep.RegionLaw
import Derived.Deep.MidRow
import Derived.Test.YtfjjdnaggblaaaaGreatGb
set_option linter.unusedSimpArgs false
set_option linter.unusedVariables false
namespace Go.Tx
open Go
inductive Rl where
 | i (k:IntKind) | bo | z (τ:Row) | o (τ:Row)
def Rl.den:Rl->Type
 | .i _=>Int
 | .bo=>Bool
 | .z τ=>List (Go.Tx.den τ)
 | .o τ=>List (Go.Tx.den τ)
abbrev denC (a:Rl) (l:List Rl) (D:Type):Type:=match l with
 | []=>a.den
 | _::_=>a.den×D
def qf6:List Rl->Type
 | []=>Unit
 | a::l=>denC a l (qf6 l)
def Rl.one:(a:Rl)->a.den->Nat->LV×List Ob
 | .i k,x,_=>(.int k x,[])
 | .bo,x,_=>(.bool x,[])
 | .z τ,x,_=>(.fz τ x,[])
 | .o τ,x,n=>(.rs n,[.rows τ x])
def qf7:(ls:List Rl)->qf6 ls->Nat->List LV×List Ob
 | [],_,_=>([],[])
 | a::[],x,n=>([(a.one x n).1],(a.one x n).2)
 | a::b::l,x,n=>((a.one x.1 n).1::(qf7 (b::l) x.2 (n+(a.one x.1 n).2.length)).1,(a.one x.1 n).2++(qf7 (b::l) x.2 (n+(a.one x.1 n).2.length)).2)
def qf8 {τ τ':Row} (xs:List (den τ')):Option (List (den τ)):=if h:τ'=τ then some (h▸xs) else none
theorem qf9 {τ τ':Row} {xs:List (den τ')} {ys:List (den τ)} (h:qf8 xs=some ys):∃ e:τ'=τ,e▸xs=ys:=by
 unfold qf8 at h
 split at h
 ·rename_i e;injection h with h;exact⟨e,h⟩
 ·cases h
def Rl.dec:(a:Rl)->LV->Nat->List Ob->Option (a.den×List Ob)
 | .i k,.int k' v,_,obs=>if k'=k then some (v,obs) else none
 | .bo,.bool v,_,obs=>some (v,obs)
 | .z _,.fz _ xs,_,obs=>(qf8 xs).map fun ys=>(ys,obs)
 | .o _,.rs m,n,.rows _ xs::obs=>bif Nat.beq m n then (qf8 xs).map fun ys=>(ys,obs) else none
 | _,_,_,_=>none
theorem Rl.dec_ok {a:Rl} {l:LV} {n:Nat} {obs rest:List Ob} {x:a.den} (h:a.dec l n obs=some (x,rest)):l=(a.one x n).1/\obs=(a.one x n).2++rest:=by
 unfold Rl.dec at h
 split at h
 ·split at h
  ·rename_i e
   injection h with h
   injection h with h1 h2
   subst e h1 h2
   exact⟨rfl,rfl⟩
  ·cases h
 ·injection h with h
  injection h with h1 h2
  subst h1 h2
  exact⟨rfl,rfl⟩
 ·obtain⟨ys,h1,h2⟩:=Option.map_eq_some_iff.1 h
  injection h2 with h2 h3
  obtain⟨e,h4⟩:=qf9 h1
  subst e h3
  simp only at h4
  subst h4
  subst h2
  exact⟨rfl,rfl⟩
 ·rename_i m n τ' xs obs'
  rw[Bool.cond_eq_ite]at h
  split at h
  ·rename_i hb
   have hmn:=Nat.eq_of_beq_eq_true hb
   obtain⟨ys,h1,h2⟩:=Option.map_eq_some_iff.1 h
   injection h2 with h2 h3
   obtain⟨e,h4⟩:=qf9 h1
   subst e h3
   simp only at h4
   subst h4
   subst h2
   subst hmn
   exact⟨rfl,rfl⟩
  ·cases h
 ·cases h
def qfa:(ls:List Rl)->List LV->Nat->List Ob->Option (qf6 ls×List Ob)
 | [], vs, _, obs => match vs with
  | []=>some ((),obs)
  | _=>none
 | [a], vs, n, obs => match vs with
  | [l]=>a.dec l n obs
  | _=>none
 | a::b::ls, vs, n, obs => match vs with
  | l::ls' => match a.dec l n obs with
   | some (x, obs') => match qfa (b::ls) ls' (n + (a.one x n).2.length) obs' with
    | some (y,r)=>some ((x,y),r)
    | none=>none
   | none=>none
  | []=>none
theorem qfb:∀ (ls:List Rl) {vs:List LV} {n:Nat} {obs rest:List Ob} {x:qf6 ls},qfa ls vs n obs=some (x,rest)->vs=(qf7 ls x n).1/\obs=(qf7 ls x n).2++rest:=by
 intro ls
 induction ls with
 | nil =>
  intro vs n obs rest x h
  cases vs with
  | nil=>exact⟨rfl,congrArg Prod.snd (Option.some.inj h)⟩
  | cons v vs=>exact absurd h (by intro h;cases h)
 | cons a l ih =>
  cases l with
  | nil =>
   intro vs n obs rest x h
   match vs,h with
   | [],h=>exact absurd h (by intro h;cases h)
   | [v], h =>
    have h':a.dec v n obs=some ((x:a.den),rest):=h
    obtain⟨h1,h2⟩:=Rl.dec_ok h'
    exact⟨congrArg (fun y=>[y]) h1,h2⟩
   | _::_::_,h=>exact absurd h (by intro h;cases h)
  | cons b l =>
   intro vs n obs rest x h
   cases vs with
   | nil=>exact absurd h (by intro h;cases h)
   | cons v vs =>
    have h':(match a.dec v n obs with
     | some (x, obs') => (match qfa (b::l) vs (n + (a.one x n).2.length) obs' with
      | some (y,r)=>(some ((x,y),r):Option ((a.den×qf6 (b::l))×List Ob))
      | none=>none)
     | none=>none)=some ((x:a.den×qf6 (b::l)),rest):=h
    clear h
    cases h1:a.dec v n obs with
    | none=>rw[h1]at h';exact absurd h' (by intro h;cases h)
    | some p =>
     obtain⟨y,obs'⟩:=p
     rw[h1]at h'
     simp only at h'
     cases h2:qfa (b::l) vs (n+(a.one y n).2.length) obs' with
     | none=>rw[h2]at h';exact absurd h' (by intro h;cases h)
     | some q =>
      obtain⟨z,r⟩:=q
      rw[h2]at h'
      simp only at h'
      have h3:=Option.some.inj h'
      have h4:(y,z)=x:=congrArg Prod.fst h3
      have h5:r=rest:=congrArg Prod.snd h3
      obtain⟨a1,a2⟩:=Rl.dec_ok h1
      obtain⟨b1,b2⟩:=ih h2
      rw[← h4,← h5]
      refine⟨?_,?_⟩
      ·show _=(a.one y n).1::_
       rw[a1,b1]
      ·show _=((a.one y n).2++_)++_
       rw[a2,b2,List.append_assoc]
mutual
def flS:LV->List LV
 | .agg cs=>flSs cs
 | .tup cs=>flSs cs
 | l=>[l]
def flSs:List LV->List LV
 | []=>[]
 | c::cs=>flS c++flSs cs
end
mutual
def fiS:LV->List LV->LV×List LV
 | .agg cs,ls=>(.agg (fiSs cs ls).1,(fiSs cs ls).2)
 | .tup cs,ls=>(.tup (fiSs cs ls).1,(fiSs cs ls).2)
 | _,l::ls=>(l,ls)
 | _,[]=>(.undef,[])
def fiSs:List LV->List LV->List LV×List LV
 | [],ls=>([],ls)
 | c::cs,ls=>((fiS c ls).1::(fiSs cs (fiS c ls).2).1,(fiSs cs (fiS c ls).2).2)
end
def notA:LV->Bool
 | .agg _=>false
 | .tup _=>false
 | _=>true
mutual
def smS:LV->LV->Bool
 | .agg cs,.agg ds=>smSs cs ds
 | .tup cs,.tup ds=>smSs cs ds
 | .undef,l=>notA l
 | _,_=>false
def smSs:List LV->List LV->Bool
 | [],[]=>true
 | c::cs,d::ds=>smS c d&&smSs cs ds
 | _,_=>false
end
mutual
theorem qfc:∀ (sk l:LV) (rest:List LV),smS sk l=true->fiS sk (flS l++rest)=(l,rest)
 | .agg cs, .agg ds, rest, h => by
  have:=fi_fls cs ds rest (by simpa [smS] using h)
  simp only[fiS,flS,this]
 | .tup cs, .tup ds, rest, h => by
  have:=fi_fls cs ds rest (by simpa [smS] using h)
  simp only[fiS,flS,this]
 | .undef, l, rest, h => by
  have hl:flS l=[l]:=by
   cases l<;>first | rfl | (simp[smS,notA]at h)
  rw[hl];rfl
 | .agg _,.undef,_,h | .agg _,.int _ _,_,h | .agg _,.bool _,_,h | .agg _,.nilp,_,h | .agg _,.str _,_,h | .agg _,.ptr _ _,_,h | .agg _,.nils,_,h | .agg _,.rs _,_,h | .agg _,.rp _ _ _ _,_,h | .agg _,.mp _,_,h | .agg _,.fz _ _,_,h | .agg _,.fp _ _ _,_,h | .agg _,.fn _ _,_,h | .agg _,.tup _,_,h=>by simp[smS]at h
 | .tup _,.undef,_,h | .tup _,.int _ _,_,h | .tup _,.bool _,_,h | .tup _,.nilp,_,h | .tup _,.str _,_,h | .tup _,.ptr _ _,_,h | .tup _,.nils,_,h | .tup _,.rs _,_,h | .tup _,.rp _ _ _ _,_,h | .tup _,.mp _,_,h | .tup _,.fz _ _,_,h | .tup _,.fp _ _ _,_,h | .tup _,.fn _ _,_,h | .tup _,.agg _,_,h=>by simp[smS]at h
 | .int _ _,_,_,h | .bool _,_,_,h | .nilp,_,_,h | .str _,_,_,h | .ptr _ _,_,_,h | .nils,_,_,h | .rs _,_,_,h | .rp _ _ _ _,_,_,h | .mp _,_,_,h | .fz _ _,_,_,h | .fp _ _ _,_,_,h | .fn _ _,_,_,h=>by simp[smS]at h
theorem fi_fls:∀ (cs ds rest:List LV),smSs cs ds=true->fiSs cs (flSs ds++rest)=(ds,rest)
 | [],[],rest,_=>rfl
 | [],_::_,_,h=>by simp[smSs]at h
 | _::_,[],_,h=>by simp[smSs]at h
 | c::cs, d::ds, rest, h => by
  rw[smSs,Bool.and_eq_true]at h
  have h1:=qfc c d (flSs ds++rest) h.1
  have h2:=fi_fls cs ds rest h.2
  simp only[fiSs,flSs,List.append_assoc,h1,h2]
end
def encF (sk:LV) (ls:List Rl) (x:qf6 ls):LV×List Ob:=((fiS sk (qf7 ls x 0).1).1,(qf7 ls x 0).2)
def qfd (sk:LV) (ls:List Rl) (o:LV×List Ob):Option (qf6 ls) :=
 bif smS sk o.1 then (match qfa ls (flS o.1) 0 o.2 with
  | some (x,[])=>some x
  | _=>none) else none
theorem qfe {sk:LV} {ls:List Rl} {o:LV×List Ob} {x:qf6 ls} (h:qfd sk ls o=some x):o=encF sk ls x:=by
 unfold qfd at h
 rw[Bool.cond_eq_ite]at h
 split at h
 ·rename_i hs
  split at h
  ·rename_i y hd
   injection h with h;subst h
   obtain⟨h1,h2⟩:=qfb ls hd
   have h3:=qfc sk o.1 [] hs
   rw[List.append_nil,h1]at h3
   rw[List.append_nil]at h2
   unfold encF
   rw[h3,← h2]
  ·cases h
 ·cases h
abbrev obif {R:Type} (c:Bool) (a b:Option R):Option R:=bif c then a else b
def obnd {A R:Type} (o:Option A) (k:A->Option R):Option R:=match o with
 | some r=>k r
 | none=>none
def qff (T:Tys) (C:Orc) (fn:Func) (pl:Plan) (d:Nat) (τs:List Pk) (sk:LV) (ls:List Rl) (x:dens τs):Option (qf6 ls) :=
 evC T C fn.ntmps pl d (qeu fn) (fun e s=>(finK T fn.results.toList e s).bind (qfd sk ls)) ⟨nums 0 (qa8 τs x),[]⟩
theorem qfg {P:Program} {T:Tys} {C:Orc} (hm:P.follows .mixedOrders=true) (hT:TysOK P T) (hC:OrcOK P C) {fn:Func} {pl:Plan} {d:Nat} {τs:List Pk} {g:FuncId} {sk:LV} {ls:List Rl}
 (hfn : P.funcs[g]? = some fn) (hc : fn.body = some (qeu fn)) (hname : ¬ fn.name = "runtime.NumGoroutine") : COK P ⟨g, τs, qf6 ls, qff T C fn pl d τs sk ls, encF sk ls⟩ :=
 qad hT hfn hc hname fun x r h w0 φ0 Q hend=>by
  refine qf4 hm hT hC (qeu fn) h fun e s' h'=>?_
  obtain⟨o,h1,h2⟩:=Option.bind_eq_some_iff.1 h'
  have h3:=qfe h2
  subst h3
  cases e with
  | n=>exact (hend s' h1).1
  | r=>exact (hend s' h1).2
  | x i=>cases h1
def atL {β:Type} (T:Tys) (C:Orc) (N:Nat) (pl:Plan) (d:Nat) (i:Nat):Code->List (St->Option β)->(Out->St->Option β)->Option (Code×(Out->St->Option β))
 | .seq x y, sf, k => match atL T C N pl d i x sf (fun e s => match e with | .n => evC T C N pl d y k s | e => k e s) with
  | some r=>some r
  | none=>atL T C N pl d i y sf k
 | .cond _ x y, sf, k => match atL T C N pl d i x sf k with
  | some r=>some r
  | none=>atL T C N pl d i y sf k
 | .block j x,sf,k=>atL T C N pl d i x sf (fun e s=>match e with | .x j'=>bif Nat.beq j' j then k .n s else k (.x j') s | e=>k e s)
 | .loop x, sf, k => bif Nat.beq (qf0 x) i then some (x, k) else match sf with
  | self::sf=>atL T C N pl d i x sf (fun e s=>match e with
    | .n=>match qf1 (pl.head (qf0 x)) s with | some s=>self s | none=>none
    | e=>k e s)
  | []=>none
 | .scope x,sf,k=>atL T C N pl d i x sf k
 | _,_,_=>none
def qfh {β:Type} (T:Tys) (C:Orc) (N:Nat) (pl:Plan) (d:Nat) (c:Code) (i:Nat) (sf:List (St->Option β)) (k:Out->St->Option β) (self:St->Option β) (s:St):Option β :=
  match atL T C N pl d i c sf k with
  | some (x,k)=>evC T C N pl d x (fun e s=>match e with
      | .n=>match qf1 (pl.head (qf0 x)) s with | some s=>self s | none=>none
      | e=>k e s) s
  | none=>none
structure Ent where
 T:Tys
 C:Orc
 fn:Func
 pl:Plan
 d:Nat
 g:FuncId
 ps:List Pk
 sk:LV
 ls:List Rl
def Ent.F (E:Ent):dens E.ps->Option (qf6 E.ls):=match E with
 | ⟨T,C,fn,pl,d,_,ps,sk,ls⟩=>qff T C fn pl d ps sk ls
def Ent.s (E:Ent):Spec:=⟨E.g,E.ps,qf6 E.ls,E.F,encF E.sk E.ls⟩
def Ent.b (E:Ent):Nat->List (St->Option (qf6 E.ls))->(St->Option (qf6 E.ls))->St->Option (qf6 E.ls):=match E with
 | ⟨T,C,fn,pl,d,_,_,sk,ls⟩=>fun i sf self s=>qfh T C fn.ntmps pl d (qeu fn) i sf (fun e s=>(finK T fn.results.toList e s).bind (qfd sk ls)) self s
theorem Ent.k {P : Program} {E : Ent} (hm : P.follows .mixedOrders = true) (hT : TysOK P E.T) (hC : OrcOK P E.C) (hf : P.funcs[E.g]? = some E.fn ∧ E.fn.body = some (qeu E.fn) ∧ decide (E.fn.name = "runtime.NumGoroutine") = false) : COK P E.s := by
 obtain⟨T,C,fn,pl,d,g,ps,sk,ls⟩:=E
 exact qfg hm hT hC hf.1 hf.2.1 (of_decide_eq_false hf.2.2)
def AllC (P:Program) (l:List Spec):Prop:=∀ S∈l,COK P S
theorem ac0 {P:Program}:AllC P []:=fun S h=>by cases h
theorem ac1 {P:Program} {S:Spec} {l:List Spec} (h:COK P S) (hl:AllC P l):AllC P (S::l):=fun S' h'=>by
 rcases List.mem_cons.1 h' with rfl | h'
 ·exact h
 ·exact hl S' h'
abbrev wi (n:Int):Int:=IntKind.wrap .i64 n
theorem qfi {X Y R:Type} {B:(Y->Option R)->Y->Option R} {L:(X->Option R)->X->Option R} {S:X->Y} (h:∀ self x,B self (S x)=L (fun x=>self (S x)) x):∀ n x,iter B n (S x)=iter L n x
 | 0,x=>rfl
 | n + 1, x => by
  rw[iter,iter,h]
  congr 1
  funext y
  exact qfi h n y
end Go.Tx
namespace Go.Tx
open Go
structure CSpec where
 g:FuncId
 τ1:List Pk
 τ2:List Pk
 σ:Row
 F:dens τ1->dens τ2->List (den σ)->Option (List (den σ))
def cmem {σ:Row} (xs:List (den σ)):LH:=q8m [.rows σ xs]
abbrev cFz {σ:Row} (xs:List (den σ)) (η:Emb):Fz0:=⟨η.fz,fun _ _=>False,[],fun k=>LB (cmem xs) η k⟩
structure COKC (P:Program) (S:CSpec):Prop where
 ok:∀ x1 x2 xs ys,S.F x1 x2 xs=some ys->∀ (w:World) (η:Emb) (vs:List Value),(∀ M,HR M η (cmem xs) w)->VRs η (qa8 S.τ1 x1 ++ .rs 0::qa8 S.τ2 x2) vs ->
  Calls P S.g vs.toArray w fun e w'=>∃ v' η',e=.returned v'/\VR η' (.rs 0) v'/\(∀ M,HR M η' (cmem ys) w')/\Fr w (cFz xs η) (cmem ys) η' w'
 body:q5z P S.g
section
variable {P:Program} {M:Nat} {H:LH} {η:Emb} {w:World}
theorem qfj {σ:Row} {xs:List (den σ)} {n:Nat} (hn:H.get n=some (.rows σ xs)):q98 H [n] [n]=some [.rows σ xs]:=by
 simp[q98,hn,q95]
theorem qfk {σ:Row} {ys:List (den σ)} {n k:Nat} {ob:Ob} (h:((H.put n none).alloc (.rows σ ys)).get k=some ob):(k=H.next/\ob=.rows σ ys)∨(k≠H.next/\k≠n/\H.get k=some ob):=by
 rw[LH.get_alloc]at h
 have e:(H.put n none).next=H.next:=rfl
 rw[e]at h
 split at h
 ·rename_i h1;injection h with h;exact .inl ⟨h1,h.symm⟩
 ·rename_i h1
  rw[LH.get_put]at h
  split at h
  ·cases h
  ·rename_i h3;exact .inr ⟨h1,h3,h⟩
theorem qfl {S:CSpec} (hS:COKC P S) (hp:qdu S.σ=true) {a1 a2:List LV} {n:Nat} {xs ys:List (den S.σ)} {x1:dens S.τ1} {x2:dens S.τ2} (h1:decs H S.τ1 a1=some x1) (h2:decs H S.τ2 a2=some x2)
 (hn:H.get n=some (.rows S.σ xs)) (hA:n∉deep H ((a1++a2).flatMap q75)) (hF:S.F x1 x2 xs=some ys) :
 q5y P S.g (a1 ++ .rs n::a2) H (.rs H.next,(H.put n none).alloc (.rows S.σ ys)):=by
 generalize hAe:deep H ((a1++a2).flatMap q75)=A at hA
 have hAm:∀ l∈a1++a2,∀ k∈deep H (q75 l),k∈A:=fun l hl k hk=>by rw[← hAe];exact qef (fun m hm=>List.mem_flatMap.2 ⟨l,hl,hm⟩) hk
 refine⟨(Logged.put H hn none).trans (Logged.alloc _ _),fun M η w vs h hM hv=>?_⟩
 have hM':H.next<M:=hM
 obtain⟨φ,hph⟩:=qe9 H η w A
 have hphi:∀ k ob,φ k=some ob->w.heap[k]?=some ob:=fun k ob hk=>by
  rcases hph.cases k ob hk with h1 | ⟨_,_,h1⟩
  ·exact h.fz k ob h1
  ·exact h1
 have hnd:q9c [n]=true:=rfl
 have hsub:=q9e hnd (qfj hn) h
 let η0:Emb:=⟨(η.sub [n]).loc,(η.sub [n]).hdr,φ⟩
 have l0:η0.loc 0=η.loc n:=rfl
 have d0:η0.hdr 0=η.hdr n:=rfl
 have lx:∀ k,1<=k->η0.loc k=none:=fun k hk=>by
  show ([n][k]?).bind η.loc=none
  rw[List.getElem?_eq_none (by simpa using hk)];rfl
 have hle0:(η.sub [n]).le η0:=⟨fun _ _ h=>h,fun _ _ h=>h,fun k ob hk=>hph.fz k ob hk⟩
 have hlb0:∀ k,LB (cmem xs) η0 k->∃ L',η.loc n=some L'/\L'.block=k:=fun k ⟨j,ob,L',hj,hL',hk⟩=>by
  match j with
  | 0=>exact⟨L',hL',hk⟩
  | j+1=>rw[lx _ (by omega)]at hL';cases hL'
 have hlbH:∀ k,LB (cmem xs) η0 k->LB H η k:=fun k hk=>let ⟨L',g2,g3⟩:=hlb0 k hk;⟨n,_,L',hn,g2,g3⟩
 have hsep0:∀ k,LB (cmem xs) η0 k->φ k=none:=fun k hk=>by
  cases hf:φ k with
  | none=>rfl
  | some o =>
   exfalso
   obtain⟨L',g2,g3⟩:=hlb0 k hk
   rcases hph.cases k o hf with h3 | ⟨_,⟨m,hm,ob',L2,m1,m2,m3⟩,_⟩
   ·rw[h.sep k (hlbH k hk)]at h3;cases h3
   ·have:=h.inj n m _ _ _ _ hn m1 g2 m2 (by rw[g3,m3])
    subst this
    exact hA hm
 have hr0:∀ M,HR M η0 (cmem xs) w:=fun M=>⟨(hsub M).dom,(hsub M).lt,fun j ob hj=>((hsub M).live j ob hj).move hle0 rfl (Nat.le_refl _) fun _ _=>rfl,(hsub M).inj,hphi,hsep0,(hsub M).ok⟩
 have hfro:(Emb.fro φ).le η0:=⟨fun _ _ h=>(by cases h),fun _ _ h=>(by cases h),fun _ _ h=>h⟩
 obtain⟨us,v0,us2,rfl,q1,q0,q2⟩:∃ us v0 us2,vs=us++v0::us2/\VRs η a1 us/\VR η (.rs n) v0/\VRs η a2 us2:=by
  have t1:=hv.take a1.length
  have t2:=hv.drop a1.length
  rw[List.take_left]at t1
  rw[List.drop_left]at t2
  obtain⟨v0,us2,e,g1,g2⟩:=t2.uncons
  exact⟨vs.take a1.length,v0,us2,by rw[← e,List.take_append_drop],t1,g1,g2⟩
 have r1:=(qei h hph h1 (fun l hl=>hAm l (List.mem_append_left _ hl)) q1).mono hfro
 have r2:=(qei h hph h2 (fun l hl=>hAm l (List.mem_append_right _ hl)) q2).mono hfro
 have r0:VR η0 (.rs 0) v0:=by
  cases q0 with
  | rs hq=>exact .rs (by rw[d0];exact hq)
 refine Calls.mono (hS.ok x1 x2 xs ys hF w η0 _ hr0 (r1.append (VRs.cons r0 r2))) fun e w' ⟨v',η',e1,ev,e3,e4⟩=>?_
 have gm:(cmem ys).get 0=some (.rows S.σ ys):=by unfold cmem;rw[q8p];rfl
 have hle:=h.le_put hM' (η'.loc 0) (η'.hdr 0)
 have hL0:∀ j ob L',H.get j=some ob->η.loc j=some L'->L'.block<w.heap.size:=fun j ob L' g1 g2=>(h.live j ob g1).lt g2
 have hkeep:∀ j ob,H.get j=some ob->j≠n->∀ L',η.loc j=some L'->¬ LB (cmem xs) η0 L'.block:=fun j ob g1 n2 L' g2 hl=>by
  obtain⟨L2,k2,k3⟩:=hlb0 _ hl
  exact n2 (h.inj n j _ _ _ _ hn g1 k2 g2 k3).symm
 have hmblk:∀ L',η'.loc 0=some L'->w.heap.size<=L'.block∨LB (cmem xs) η0 L'.block:=fun L' hl=>e4.lb _ ⟨0,_,L',gm,hl,rfl⟩
 have hlb2:∀ k,LB ((H.put n none).alloc (.rows S.σ ys)) (η.put H.next (η'.loc 0) (η'.hdr 0)) k->LB H η k∨w.heap.size<=k:=fun k ⟨j,ob,L',hj,hL',hk⟩=>by
  rcases qfk hj with⟨rfl,_⟩ | ⟨d1,_,d4⟩
  ·rw[Emb.put_loc]at hL'
   rcases hmblk _ hL' with t | t
   ·exact .inr (hk▸t)
   ·exact .inl (hk▸hlbH _ t)
  ·rw[(η.put_ne _ _ d1).1]at hL';exact .inl ⟨j,_,L',d4,hL',hk⟩
 refine⟨v',η.put H.next (η'.loc 0) (η'.hdr 0),e1,?_,hle,fun j hj=>η.put_ne _ _ (by
   have hnx:((H.put n none).alloc (.rows S.σ ys)).next=H.next+1:=rfl
   rw[hnx]at hj;omega),Nat.le_succ _,⟨fun j hj hjM=>?_,fun j ob hj=>?_,fun j ob hj=>?_,fun j1 j2 o1 o2 L1 L2 k1 k2 t1 t2 he=>?_,fun k ob hk=>?_,fun k hk=>?_,fun j v hj=>?_⟩,e4.size,fun k hk hl=>e4.same k hk fun hl0=>hl (hlbH k hl0),hlb2,fun k ob hk=>.inl hk,e4.os,e4.tape,e4.output,e4.drawn⟩
 ·cases ev with
  | rs hq=>exact .rs (by rw[Emb.put_hdr];exact hq)
 ·have hj':H.next+1<=j:=hj
  have:=η.put_ne (η'.loc 0) (η'.hdr 0) (show j≠H.next by omega)
  rw[this.1,this.2];exact h.dom j (by omega) hjM
 ·show j<H.next+1
  rcases qfk hj with⟨rfl,_⟩ | ⟨_,_,d4⟩
  ·omega
  ·have:=h.lt j _ d4;omega
 ·rcases qfk hj with⟨rfl,rfl⟩ | ⟨d1,d3,d4⟩
  ·cases (e3 0).live 0 _ gm with
   | rows k1 k2 k3 k4 k5=>exact .rows (by rw[Emb.put_loc];exact k1) (qel hp k2) (by rw[Emb.put_hdr];exact k3) k4 k5
   | none k1 k2=>exact .none (by rw[Emb.put_loc];exact k1) (by rw[Emb.put_hdr];exact k2)
  ·exact (h.live j ob d4).move hle (η.put_ne _ _ d1).1 e4.size fun L' hL'=>e4.same _ (hL0 _ _ _ d4 hL') (hkeep _ _ d4 d3 L' hL')
 ·have other:∀ j ob L',j≠n->H.get j=some ob->η.loc j=some L'->∀ L2,η'.loc 0=some L2->L'.block≠L2.block:=fun j ob L' c2 c3 t L2 hm2 he=>by
   rcases hmblk _ hm2 with t2 | t2
   ·have:=hL0 _ _ _ c3 t;omega
   ·rw[← he]at t2;exact hkeep j ob c3 c2 L' t t2
  rcases qfk k1 with⟨rfl,_⟩ | ⟨d1,d3,d4⟩<;>rcases qfk k2 with⟨rfl,_⟩ | ⟨c1,c3,c4⟩
  ·rfl
  ·rw[Emb.put_loc]at t1;rw[(η.put_ne _ _ c1).1]at t2
   exact absurd he.symm (other j2 o2 L2 c3 c4 t2 L1 t1)
  ·rw[Emb.put_loc]at t2;rw[(η.put_ne _ _ d1).1]at t1
   exact absurd he (other j1 o1 L1 d3 d4 t1 L2 t2)
  ·rw[(η.put_ne _ _ d1).1]at t1;rw[(η.put_ne _ _ c1).1]at t2
   exact h.inj _ _ _ _ _ _ d4 c4 t1 t2 he
 ·exact (e3 0).fz k ob (e4.fz0 k ob (hph.fz k ob hk))
 ·show η.fz k=none
  rcases hlb2 k hk with t | t
  ·exact h.sep k t
  ·cases hf:η.fz k with
   | none=>rfl
   | some o=>have:=(Array.getElem?_eq_some_iff.1 (h.fz k o hf)).1;omega
 ·by_cases he:j=H.next
  ·subst he;rw[Emb.put_hdr]at hj;exact (e3 0).ok 0 v hj
  ·rw[(η.put_ne _ _ he).2]at hj;exact h.ok j v hj
theorem qfm {g:FuncId} {σ:Row} {a1 a2:List LV} {r:LV×LH} (h:q5y P g (a1 ++ .rs H.next::a2) (H.alloc (.rows σ [])) r):q5y P g (a1 ++ .nils::a2) H r:=by
 refine⟨(Logged.alloc _ _).trans h.1,fun M η w vs hr hM hv=>?_⟩
 have hn:(H.alloc (.rows σ [])).next<=r.2.next:=h.1.next
 have hadv:=q15 hr (Nat.le_trans hn hM) σ none
 obtain⟨us,v0,us2,rfl,q1,q0,q2⟩:∃ us v0 us2,vs=us++v0::us2/\VRs η a1 us/\VR η .nils v0/\VRs η a2 us2:=by
  have t1:=hv.take a1.length
  have t2:=hv.drop a1.length
  rw[List.take_left]at t1
  rw[List.drop_left]at t2
  obtain⟨v0,us2,e,g1,g2⟩:=t2.uncons
  exact⟨vs.take a1.length,v0,us2,by rw[← e,List.take_append_drop],t1,g1,g2⟩
 cases q0
 refine Calls.mono (h.2 M _ w _ hadv.hr hM ((q1.mono hadv.le).append (VRs.cons (.rs (Emb.put_hdr ..)) (q2.mono hadv.le)))) fun e w' ⟨v',η',e1,ev,e3⟩=>⟨v',η',e1,ev,hadv.trans e3⟩
def orcC (S:CSpec) (C:Orc):Orc:=fun h args H =>
 bif Nat.beq h S.g then (match args.drop S.τ1.length with
  | .rs n::a2=>(match H.get n with
    | some (.rows σ xs) => if e : σ = S.σ then (match decs H S.τ1 (args.take S.τ1.length), decs H S.τ2 a2 with
     | some x1, some x2 => bif memB (deep H ((args.take S.τ1.length ++ a2).flatMap q75)) n then none else
      some ⟨List (den S.σ),S.F x1 x2 (e▸xs),fun ys=>(.rs H.next,(H.put n none).alloc (.rows S.σ ys))⟩
     | _,_=>none) else none
    | _=>none)
  | .nils::a2=>(match decs (H.alloc (.rows S.σ [])) S.τ1 (args.take S.τ1.length),decs (H.alloc (.rows S.σ [])) S.τ2 a2 with
     | some x1, some x2 => bif memB (deep (H.alloc (.rows S.σ [])) ((args.take S.τ1.length ++ a2).flatMap q75)) H.next then none else
      some ⟨List (den S.σ),S.F x1 x2 [],fun ys=>(.rs (H.next+1),((H.alloc (.rows S.σ [])).put H.next none).alloc (.rows S.σ ys))⟩
     | _,_=>none)
  | _=>none) else C h args H
theorem qfn {S:CSpec} (hS:COKC P S) (hp:qdu S.σ=true) {C:Orc} (hC:OrcOK P C):OrcOK P (orcC S C):=by
 refine⟨fun h args H p x hp' hx=>?_⟩
 unfold orcC at hp'
 rw[Bool.cond_eq_ite]at hp'
 split at hp'
 ·rename_i he
  have he:=Nat.eq_of_beq_eq_true he
  subst he
  split at hp'
  ·rename_i n a2 hdr
   split at hp'
   ·rename_i σ xs hn
    split at hp'
    ·rename_i e
     subst e
     split at hp'
     ·rename_i x1 x2 d1 d2
      rw[Bool.cond_eq_ite]at hp'
      split at hp'
      ·cases hp'
      ·rename_i hc
       injection hp' with hp'
       subst hp'
       have hargs:args=args.take S.τ1.length ++ .rs n::a2:=by rw[← hdr,List.take_append_drop]
       refine .inl ⟨?_,hS.body⟩
       have:=qfl hS hp d1 d2 hn (fun hm=>hc (q6z.2 hm)) hx
       rw[← hargs]at this
       exact this
     ·cases hp'
    ·cases hp'
   ·cases hp'
  ·rename_i a2 hdr
   split at hp'
   ·rename_i x1 x2 d1 d2
    rw[Bool.cond_eq_ite]at hp'
    split at hp'
    ·cases hp'
    ·rename_i hc
     injection hp' with hp'
     subst hp'
     have hargs:args=args.take S.τ1.length ++ .nils::a2:=by rw[← hdr,List.take_append_drop]
     refine .inl ⟨?_,hS.body⟩
     have hn:(H.alloc (.rows S.σ [])).get H.next=some (.rows S.σ []):=by rw[LH.get_alloc,if_pos rfl]
     have:=qfm (qfl hS hp d1 d2 hn (fun hm=>hc (q6z.2 hm)) hx)
     rw[← hargs]at this
     exact this
   ·cases hp'
  ·cases hp'
 ·exact hC.call h args H p x hp' hx
theorem qfo {T : Tys} (hT : TysOK P T) {S : CSpec} {fn : Func} {c : Code} (hfn : P.funcs[S.g]? = some fn) (hc : fn.body = some c) (hname : ¬ fn.name = "runtime.NumGoroutine")
 (h:∀ x1 x2 xs ys,S.F x1 x2 xs=some ys->∀ w0 φ0 Q,End T w0 φ0 fn.ntmps fn.results.toList (.rs 0,[.rows S.σ ys]) Q->Run P w0 φ0 fn.ntmps c ⟨nums 0 (qa8 S.τ1 x1 ++ .rs 0::qa8 S.τ2 x2),[.rows S.σ xs]⟩ Q):COKC P S:=by
 refine⟨fun x1 x2 xs ys hx w η vs hr hv=>?_,fn,c,hfn,hc,hname⟩
 refine calls_of_wp hfn hc ?_
 refine h x1 x2 xs ys hx w (cFz xs η) _ (fun s hs=>?_) _ w ⟨⟨η,hr,fun n l hl=>?_,⟨Nat.le_refl _,fun _ _ _=>rfl,fun k hk=>.inr hk,fun _ _ h=>h,fun _ _ h=>.inl h,rfl,rfl,rfl,Nat.le_refl _,fun _ _ h=>h.elim⟩⟩,?_,rfl⟩
 ·have fin:∀ a w',SS w (cFz xs η) fn.ntmps s a w'->_:=qac (S:=⟨S.g,[],Unit,fun _=>none,fun _=>(.rs 0,[.rows S.σ ys])⟩) (r:=()) hT hs
  exact⟨fun a w' hss=>fin a w' hss,fun a w' hss=>fin a w' hss⟩
 ·obtain⟨_,h2⟩:=qa9 _ 0 n l hl
  rw[Nat.sub_zero]at h2
  obtain⟨v,e1,e2⟩:=hv.get h2
  refine⟨v,?_,e2⟩
  have hlt:=(List.getElem?_eq_some_iff.1 e1).1
  rw[Array.getElem?_append_left (by simpa using hlt)]
  simpa using e1
 ·simp;omega
theorem qfp {T : Tys} (hT : TysOK P T) {S : CSpec} {fn : Func} {c : Code} (hfn : P.funcs[S.g]? = some fn) (hc : fn.body = some c) (hname : ¬ fn.name = "runtime.NumGoroutine")
 (h:∀ (x:dens S.τ1×dens S.τ2×List (den S.σ)) (r:List (den S.σ)),S.F x.1 x.2.1 x.2.2=some r->∀ w0 φ0 Q,End T w0 φ0 fn.ntmps fn.results.toList (.rs 0,[.rows S.σ r]) Q->Run P w0 φ0 fn.ntmps c ⟨nums 0 (qa8 S.τ1 x.1 ++ .rs 0::qa8 S.τ2 x.2.1),[.rows S.σ x.2.2]⟩ Q):COKC P S :=
 qfo hT hfn hc hname fun x1 x2 xs ys hx=>h (x1,x2,xs) ys hx
end
def KT (V:Nat->Value->Prop) (a:Act):Prop:=∀ n v,V n v->a.tmps[n]?=some v
theorem qfq {V:Nat->Value->Prop} {a:Act} {dst:Option Tmp} (hd:∀ n v,V n v->dst≠some n) (h:KT V a) (v:Value):KT V (a.put dst v):=fun n u hu=>by
 cases dst with
 | none=>exact h n u hu
 | some d =>
  have hne:d≠n:=fun he=>hd n u hu (by rw[he])
  show (a.tmps.setIfInBounds d v)[n]?=some u
  rw[Array.getElem?_setIfInBounds_ne hne];exact h n u hu
def QK (V:Nat->Value->Prop) (Q:Exit->Act->World->Prop) (e:Exit) (a:Act) (w:World):Prop:=Q e a w/\(e=.normal->KT V a)
section
variable {P:Program} {V:Nat->Value->Prop} {Q:Exit->Act->World->Prop} {ops:Array Oper}
theorem qfr {o:Oper} {a:Act} {w:World} {K:Act->World->Prop} (hd:∀ n v,V n v->o.dst≠some n) (ht:KT V a) (h:o.wp P a w K Q):o.wp P a w (fun a w=>K a w/\KT V a) (QK V Q):=by
 unfold Oper.wp at *
 generalize (execOp a.eval o).run P w=r at *
 cases r with
 | ok n w' =>
  cases n<;>simp only[Oper.upon]at h ⊢
  case value v=>exact⟨h,qfq hd ht v⟩
  case skip=>exact⟨h,qfq hd ht _⟩
  case defer d=>exact⟨h,qfq (a:={ a with defers:=d::a.defers }) hd ht _⟩
  case enter f args =>
   refine Calls.mono h fun e w'' he=>?_
   cases e with
   | returned v=>exact⟨he,qfq hd ht v⟩
   | panicked c=>exact⟨he,fun h=>by cases h⟩
   | outgrown=>obtain⟨a2,w2,h2⟩:=he;exact⟨a2,w2,h2,fun h=>by cases h⟩
  case row row args=>exact Rows.mono h fun v w'' he=>⟨he,qfq hd ht v⟩
 | halt x w' =>
  cases x<;>simp only[Oper.upon]at h ⊢
  exact⟨h,fun h=>by cases h⟩
theorem qfs:∀ (l:List Oper),(∀ o∈l,∀ n v,V n v->o.dst≠some n)->∀ (a:Act) (w:World),KT V a->wpList P ops Q l a w->wpList P ops (QK V Q) l a w
 | [],_,a,w,ht,h=>⟨h,fun _=>ht⟩
 | o::l, hd, a, w, ht, h => by
  have ih:=qfs l fun o ho=>hd o (List.mem_cons_of_mem _ ho)
  have h0:=hd o (List.mem_cons_self ..)
  change (if Region.wanted o (yielded ops a.tmps) then _ else _)
  change (if Region.wanted o (yielded ops a.tmps) then _ else _) at h
  split
  ·rename_i hw
   rw[if_pos hw]at h
   rcases h with h | h
   ·exact .inl (Oper.wp_mono (fun a w hk=>ih a w hk.2 hk.1) (qfr h0 ht h))
   ·obtain⟨a2,w2,h3⟩:=h.2
    exact .inr ⟨h.1,a2,w2,h3,fun h=>by cases h⟩
  ·rename_i hw
   rw[if_neg hw]at h
   exact ih _ _ (qfq h0 ht _) h
theorem qft {md:Region.Mode} (hd:∀ (i:Nat) (o:Oper),ops[i]?=some o->∀ n v,V n v->o.dst≠some n):∀ (f:Nat) (li:Array Bool) (a:Act) (w:World),KT V a->wpAny P md ops Q f li a w->wpAny P md ops (QK V Q) f li a w:=by
 intro f
 induction f with
 | zero=>intro li a w ht h;exact⟨h.1,h.2,fun _=>ht⟩
 | succ f ih =>
  intro li a w ht h
  refine⟨fun hr=>⟨h.1 hr,fun _=>ht⟩,fun i hi=>?_⟩
  have h2:=h.2 i hi
  unfold wpOp at h2 ⊢
  cases ho:ops[i]? with
  | none=>rw[ho]at h2;exact ih _ _ _ ht h2
  | some o =>
   rw[ho]at h2
   simp only at h2 ⊢
   split
   ·rename_i hw
    rw[if_pos hw]at h2
    rcases h2 with h2 | h2
    ·exact .inl (Oper.wp_mono (fun a w hk=>ih _ a w hk.2 hk.1) (qfr (hd i o ho) ht h2))
    ·obtain⟨a2,w2,h3⟩:=h2.2
     exact .inr ⟨h2.1,a2,w2,h3,fun h=>by cases h⟩
   ·rename_i hw
    rw[if_neg hw]at h2
    exact ih _ _ _ (qfq (hd i o ho) ht _) h2
def dstB (ns:List Nat) (ops:Array Oper):Bool:=ops.toList.all fun o=>match o.dst with | some d=>!memB ns d | none=>true
theorem qfu {ns:List Nat} (h:dstB ns ops=true) (hV:∀ n v,V n v->n∈ns) {o:Oper} (ho:o∈ops.toList):∀ n v,V n v->o.dst≠some n:=fun n v hn he=>by
 unfold dstB at h
 have h1:=List.all_eq_true.1 h o ho
 rw[he]at h1
 simp only at h1
 rw[q6z.2 (hV n v hn)]at h1
 cases h1
theorem qfv {draw:Bool} {a:Act} {w:World} {ns:List Nat} (hV:∀ n v,V n v->n∈ns) (hd:dstB ns ops=true) (ht:KT V a) (h:RW P ops draw Q a w):RW P ops draw (QK V Q) a w:=by
 cases draw with
 | true=>exact qft (fun i o ho=>qfu hd hV (List.mem_of_getElem? (i:=i) (by rw[Array.getElem?_toList];exact ho))) _ _ _ _ ht h
 | false=>exact qfs _ (fun o ho=>qfu hd hV ho) _ _ ht h
end
section
variable {P:Program} {T:Tys} {C:Orc} {N:Nat} {V:Nat->Value->Prop} {w0:World} {φ0:Fz0} {Q:Exit->Act->World->Prop}
def RunK (P:Program) (V:Nat->Value->Prop) (w0:World) (φ0:Fz0) (N:Nat) (c:Code) (s:St) (Q:Exit->Act->World->Prop):Prop:=∀ a w,SS w0 φ0 N s a w->KT V a->c.wp P Q a w
def CnK (V:Nat->Value->Prop) (w0:World) (φ0:Fz0) (N:Nat) (s:St) (Q:Exit->Act->World->Prop) (e:Exit):Prop:=∀ a w,SS w0 φ0 N s a w->KT V a->Q e a w
theorem qfw {c:Code} {s:St} (h:RunK P V w0 φ0 N c s Q):CnK V w0 φ0 N s (Exit.then (c.wp P Q) Q) .normal:=h
theorem qfx {s:St} {K:Act->World->Prop} {i:Nat} (h:CnK V w0 φ0 N s Q (.exit i)):CnK V w0 φ0 N s (Exit.then K Q) (.exit i):=h
theorem qfy {s:St} {K:Act->World->Prop} (h:CnK V w0 φ0 N s Q .ret):CnK V w0 φ0 N s (Exit.then K Q) .ret:=h
theorem qfz {s:St} {i:Nat} (h:CnK V w0 φ0 N s Q .normal):CnK V w0 φ0 N s (Exit.inBlock i Q) .normal:=h
theorem qg0 {s:St} {i:Nat} (h:CnK V w0 φ0 N s Q .ret):CnK V w0 φ0 N s (Exit.inBlock i Q) .ret:=h
theorem qg1 {s:St} {i:Nat} (h:CnK V w0 φ0 N s Q .normal):CnK V w0 φ0 N s (Exit.inBlock i Q) (.exit i):=fun a w hs hv=>by
 show (if i=i then Q .normal a w else Q (.exit i) a w)
 rw[if_pos rfl];exact h a w hs hv
theorem qg2 {s:St} {i j:Nat} (hij:Nat.beq j i=false) (h:CnK V w0 φ0 N s Q (.exit j)):CnK V w0 φ0 N s (Exit.inBlock i Q) (.exit j):=fun a w hs hv=>by
 show (if j=i then Q .normal a w else Q (.exit j) a w)
 rw[if_neg (Nat.ne_of_beq_eq_false hij)];exact h a w hs hv
theorem qg3 {s:St} (h:CnK V w0 φ0 N s Q .normal):CnK V w0 φ0 N s (Exit.noGoto Q) .normal:=h
theorem qg4 {s:St} {i:Nat} (h:CnK V w0 φ0 N s Q (.exit i)):CnK V w0 φ0 N s (Exit.noGoto Q) (.exit i):=h
theorem qg5 {s:St} (h:CnK V w0 φ0 N s Q .ret):CnK V w0 φ0 N s (Exit.noGoto Q) .ret:=h
theorem qg6 {s:St} (h:CnK V w0 φ0 N s Q .normal):RunK P V w0 φ0 N .skip s Q:=fun a w hs hv=>wp_skip (h a w hs hv)
theorem qg7 {s:St} {k:Nat} (h:CnK V w0 φ0 N s Q .normal):RunK P V w0 φ0 N (.label k) s Q:=fun a w hs hv=>wp_label (h a w hs hv)
theorem qg8 {s:St} {i:Nat} (h:CnK V w0 φ0 N s Q (.exit i)):RunK P V w0 φ0 N (.exit i) s Q:=fun a w hs hv=>wp_exit (h a w hs hv)
theorem qg9 {s:St} (h:CnK V w0 φ0 N s Q .ret):RunK P V w0 φ0 N .ret s Q:=fun a w hs hv=>wp_ret (h a w hs hv)
theorem qga {x y:Code} {s:St} (h:RunK P V w0 φ0 N x s (Exit.then (y.wp P Q) Q)):RunK P V w0 φ0 N (.seq x y) s Q:=fun a w hs hv=>wp_seq (wp_mono (h a w hs hv) fun _ _ _ h=>h)
theorem qgb {c:Code} {s:St} {i:Nat} (h:RunK P V w0 φ0 N c s (Exit.inBlock i Q)):RunK P V w0 φ0 N (.block i c) s Q:=fun a w hs hv=>wp_block (h a w hs hv)
theorem qgc {c:Code} {s:St} (h:RunK P V w0 φ0 N c s (Exit.noGoto Q)):RunK P V w0 φ0 N (.scope c) s Q:=fun a w hs hv=>wp_scope_straight (h a w hs hv)
theorem qge {R:Type} {r:R} {v:Bool} {A B:Option R} {c:Operand} {x y:Code} {s:St} (hc:stev s c=.bool v) (h:(bif v then A else B)=some r) (ht:A=some r->RunK P V w0 φ0 N x s Q) (hf:B=some r->RunK P V w0 φ0 N y s Q):RunK P V w0 φ0 N (.cond c x y) s Q:=fun a w hs hv=>by
 obtain⟨η,h1,_⟩:=hs.sr
 have hx:=q63 (h1 0).tr c
 rw[show xev (q8k s.tm .lf) c=.bool v from hc]at hx
 have hcv:a.eval c=.bool v:=by
  generalize a.eval c=u at hx
  cases hx;rfl
 refine wp_cond hcv ?_
 cases v with
 | true=>exact ht h a w hs hv
 | false=>exact hf h a w hs hv
end
section
variable {P:Program} {M:Nat} {H:LH} {η:Emb} {w:World}
theorem qgh {n x:Nat} {o ob:Ob} (hx:(H.put n (some o)).get x=some ob):(x=n/\ob=o)∨(x≠n/\H.get x=some ob):=by
 rw[LH.get_put]at hx
 split at hx
 ·rename_i he;injection hx with hx;exact .inl ⟨he,hx.symm⟩
 ·rename_i he;exact .inr ⟨he,hx⟩
end
mutual
def mapR (μ:Nat->Nat):LV->LV
 | .ptr n o=>.ptr (μ n) o
 | .rp n i sz j=>.rp (μ n) i sz j
 | .rs n=>.rs (μ n)
 | .mp n=>.mp (μ n)
 | .fn f cs=>.fn f (mapRs μ cs)
 | .agg cs=>.agg (mapRs μ cs)
 | .tup cs=>.tup (mapRs μ cs)
 | .undef=>.undef
 | .int k n=>.int k n
 | .bool v=>.bool v
 | .nilp=>.nilp
 | .str s=>.str s
 | .nils=>.nils
 | .fz τ xs=>.fz τ xs
 | .fp τ x j=>.fp τ x j
def mapRs (μ:Nat->Nat):List LV->List LV
 | []=>[]
 | c::cs=>mapR μ c::mapRs μ cs
end
theorem qgn (μ:Nat->Nat):∀ cs:List LV,(mapRs μ cs).length=cs.length
 | []=>rfl
 | _::cs=>by rw[mapRs,List.length_cons,List.length_cons,qgn μ cs]
structure Maps (μ:Nat->Nat) (m:Nat) (η η':Emb):Prop where
 at_:∀ n,n<m->η'.loc (μ n)=η.loc n/\η'.hdr (μ n)=η.hdr n
 out:∀ n,m<=n->η.loc n=none/\η.hdr n=none
 fz:∀ k ob,η.fz k=some ob->η'.fz k=some ob
section
variable {μ:Nat->Nat} {m:Nat} {η η':Emb}
theorem Maps.l (h:Maps μ m η η') {n:Nat} {L:Loc} (hn:η.loc n=some L):η'.loc (μ n)=some L:=by
 by_cases c:n<m
 ·rw[(h.at_ n c).1];exact hn
 ·rw[(h.out n (by omega)).1]at hn;cases hn
theorem Maps.d (h:Maps μ m η η') {n:Nat} {v:Value} (hn:η.hdr n=some v):η'.hdr (μ n)=some v:=by
 by_cases c:n<m
 ·rw[(h.at_ n c).2];exact hn
 ·rw[(h.out n (by omega)).2]at hn;cases hn
theorem qgo (hf:∀ k ob,η.fz k=some ob->η'.fz k=some ob) {l:LV} {v:Value} (hl:(match l with | .fz _ _=>true | .fp _ _ _=>true | _=>false)=true) (h:VR η l v):VR η' l v:=by
 have key:VR (⟨fun _=>none,fun _=>none,η.fz⟩:Emb) l v:=by
  cases h with
  | fz h=>exact .fz h
  | fp h=>exact .fp h
  | _=>cases hl
 exact VR.mono (η:=⟨fun _=>none,fun _=>none,η.fz⟩) (η':=η') ⟨fun _ _ h=>(by cases h),fun _ _ h=>(by cases h),hf⟩ key
mutual
theorem qgp (hm:Maps μ m η η'):∀ {l:LV} {v:Value},VR η l v->VR η' (mapR μ l) v
 | .ptr n o,v,hv=>by cases hv with | ptr h=>exact .ptr (hm.l h)
 | .rp n i sz c,v,hv=>by cases hv with | rp h hh hi=>exact .rp (hm.l h) (hm.d hh) hi
 | .rs n,v,hv=>by cases hv with | rs h=>exact .rs (hm.d h)
 | .mp n,v,hv=>by cases hv with | mp h=>exact .mp (hm.l h)
 | .fn f cs, v, hv => by
  cases hv with
  | fn hl h =>
   have:=mapRs_ok hm (cs:=cs) ⟨hl,h⟩
   exact .fn this.1 this.2
 | .agg cs, v, hv => by
  cases hv with
  | agg hl h =>
   have:=mapRs_ok hm (cs:=cs) ⟨hl,h⟩
   exact .agg this.1 this.2
 | .tup cs, v, hv => by
  cases hv with
  | tup hl h =>
   have:=mapRs_ok hm (cs:=cs) ⟨hl,h⟩
   exact .tup this.1 this.2
 | .undef,v,hv=>.undef v
 | .int k n,v,hv=>by cases hv;exact .int _ _
 | .bool b,v,hv=>by cases hv;exact .bool _
 | .nilp,v,hv=>by cases hv;exact .nilp
 | .str s,v,hv=>by cases hv;exact .str _
 | .nils,v,hv=>by cases hv;exact .nils
 | .fz τ xs,v,hv=>qgo hm.fz rfl hv
 | .fp τ x j,v,hv=>qgo hm.fz rfl hv
theorem mapRs_ok (hm:Maps μ m η η'):∀ {cs:List LV} {vs:List Value},VRs η cs vs->VRs η' (mapRs μ cs) vs
 | [],vs,h=>⟨h.1,fun i c v hc=>by simp[mapRs]at hc⟩
 | c::cs, vs, h => by
  obtain⟨v,vs',rfl,h1,h2⟩:=h.uncons
  exact VRs.cons (qgp hm h1) (mapRs_ok hm h2)
end
def qgq (μ:Nat->Nat):Ob->Ob
 | .cells cs=>.cells (mapRs μ cs)
 | o=>o
def okOb:Ob->Bool
 | .cells _=>true
 | .rows τ _=>qdu τ
 | .imap _ _ _ _=>true
 | _=>false
theorem qgr (μ:Nat->Nat):∀ (cs:List LV) (i:Nat),(mapRs μ cs)[i]?=(cs[i]?).map (mapR μ)
 | [],i=>by simp[mapRs]
 | c::cs,0=>rfl
 | c::cs,i+1=>by rw[mapRs,List.getElem?_cons_succ,List.getElem?_cons_succ];exact qgr μ cs i
theorem qgs (hm:Maps μ m η η') {w:World} {n:Nat} (hn:n<m) {ob:Ob} (hk:okOb ob=true) (h:Lv η w n ob):Lv η' w (μ n) (qgq μ ob):=by
 have e:=hm.at_ n hn
 cases h with
 | cells hL ha hl =>
  refine .cells (by rw[e.1];exact hL) ⟨ha.lt,by rw[qgn];exact ha.fits,ha.there,fun j c hc=>?_⟩ (by rw[qgn];exact hl)
  rw[qgr]at hc
  obtain⟨c0,h0,rfl⟩:=Option.map_eq_some_iff.1 hc
  obtain⟨v,h1,h2⟩:=ha.cell j c0 h0
  exact⟨v,h1,qgp hm h2⟩
 | rows hL ha hh hc hr=>exact .rows (by rw[e.1];exact hL) (qel hk ha) (by rw[e.2];exact hh) hc hr
 | none hL hh=>exact .none (by rw[e.1];exact hL) (by rw[e.2];exact hh)
 | rowl=>cases hk
 | view=>cases hk
 | pref=>cases hk
 | imap hL hm' he=>exact .imap (by rw[e.1];exact hL) hm' (EsR.mono (fun x v h=>q92 hm.fz h) he)
end
structure GSpec where
 g:FuncId
 X:Type
 R:Type
 q:Nat
 args:X->List LV
 obs:X->List Ob
 dec:List LV->List Ob->Option X
 F:X->Option R
 res:R->LV
 obs':R->List Ob
abbrev gFz (l:List Ob) (η:Emb):Fz0:=⟨η.fz,fun _ _=>False,[],fun k=>LB (q8m l) η k⟩
structure COKG (P:Program) (S:GSpec):Prop where
 dec:∀ az obs x,S.dec az obs=some x->az=S.args x/\obs=S.obs x
 ok:∀ x r,S.F x=some r->∀ (w:World) (η:Emb) (vs:List Value),(∀ M,HR M η (q8m (S.obs x)) w)->VRs η (S.args x) vs ->
  Calls P S.g vs.toArray w fun e w'=>∃ v' η',e=.returned v'/\VR η' (S.res r) v'/\(∀ M,HR M η' (q8m (S.obs' r)) w')/\(∀ j,j<S.q->η'.loc j=η.loc j/\η'.hdr j=η.hdr j)/\Fr w (gFz (S.obs x) η) (q8m (S.obs' r)) η' w'
 body:q5z P S.g
 form:∀ r,Nat.ble S.q (S.obs' r).length=true/\(S.obs' r).all okOb=true
def qgt (H:LH):List Nat->List Ob->LH
 | n::ns,ob::obs=>qgt (H.put n (some ob)) ns obs
 | _,_=>H
theorem qgu:∀ (ns:List Nat) (obs:List Ob) (H:LH),(qgt H ns obs).next=H.next/\(∃ m,(qgt H ns obs).log=m++H.log/\∀ b,b∈m->b∈ns)/\∀ b ob,(qgt H ns obs).get b=some ob->(∃ j:Nat,ns[j]?=some b/\obs[j]?=some ob)∨H.get b=some ob
 | [],obs,H=>⟨rfl,⟨[],rfl,fun b h=>by cases h⟩,fun b ob h=>.inr h⟩
 | n::ns,[],H=>⟨rfl,⟨[],rfl,fun b h=>by cases h⟩,fun b ob h=>.inr h⟩
 | n::ns, o::obs, H => by
  obtain⟨h1,⟨m,h2,h3⟩,h4⟩:=qgu ns obs (H.put n (some o))
  refine⟨h1,⟨m ++ [n],by rw[qgt,h2];simp[LH.put],fun b hb=>?_⟩,fun b ob hb=>?_⟩
  ·rcases List.mem_append.1 hb with hb | hb
   ·exact List.mem_cons_of_mem _ (h3 b hb)
   ·rw[List.mem_singleton.1 hb];exact List.mem_cons_self ..
  ·rcases h4 b ob hb with⟨j,j1,j2⟩ | hg
   ·exact .inl ⟨j+1,by rw[List.getElem?_cons_succ];exact j1,by rw[List.getElem?_cons_succ];exact j2⟩
   ·rcases qgh hg with⟨rfl,rfl⟩ | ⟨_,hg⟩
    ·exact .inl ⟨0,rfl,rfl⟩
    ·exact .inr hg
theorem qgv:∀ (ns:List Nat) (obs:List Ob) (H:LH) (b:Nat),b∉ns->(qgt H ns obs).get b=H.get b
 | [],obs,H,b,_=>rfl
 | n::ns,[],H,b,_=>rfl
 | n::ns, o::obs, H, b, h => by
  rw[List.mem_cons,not_or]at h
  rw[qgt,qgv ns obs _ b h.2,LH.get_put,if_neg h.1]
def gmu (H:LH) (ρ:List Nat) (q:Nat) (j:Nat):Nat:=if j<q then (ρ[j]?).getD 0 else H.next+(j-q)
def qgw (H:LH) (ρ:List Nat) (q:Nat) (obs':List Ob):LH :=
 qe0 (qgt (qe2 H ρ) (ρ.take q) ((obs'.take q).map (qgq (gmu H ρ q)))) ((obs'.drop q).map (qgq (gmu H ρ q)))
section
variable {H:LH} {ρ:List Nat} {q:Nat} {obs':List Ob}
theorem qgx:(qgw H ρ q obs').next=H.next+(obs'.length-q):=by
 unfold qgw
 rw[(qe1 _ _).1,(qgu _ _ _).1,(qe3 _ _).1,List.length_map,List.length_drop]
theorem qgy (hq:q<=ρ.length) (hq':q<=obs'.length) {b:Nat} {ob:Ob} (h:(qgw H ρ q obs').get b=some ob):(∃ (j:Nat) (ob0:Ob),obs'[j]?=some ob0/\ob=qgq (gmu H ρ q) ob0/\b=gmu H ρ q j)∨(b∉ρ/\H.get b=some ob):=by
 unfold qgw at h
 rw[(qe1 _ _).2.2,(qgu _ _ _).1,(qe3 _ _).1]at h
 split at h
 ·rename_i hb
  rw[List.getElem?_map]at h
  obtain⟨ob0,h0,rfl⟩:=Option.map_eq_some_iff.1 h
  rw[List.getElem?_drop]at h0
  refine .inl ⟨q+(b-H.next),ob0,h0,rfl,?_⟩
  unfold gmu
  rw[if_neg (by omega)];omega
 ·rcases (qgu _ _ _).2.2 b ob h with⟨j,j1,j2⟩ | hg
  ·rw[List.getElem?_map]at j2
   obtain⟨ob0,h0,rfl⟩:=Option.map_eq_some_iff.1 j2
   have hj:j<q:=by have:=(List.getElem?_eq_some_iff.1 j1).1;rw[List.length_take]at this;omega
   rw[List.getElem?_take_of_lt hj]at j1 h0
   refine .inl ⟨j,ob0,h0,rfl,?_⟩
   unfold gmu
   rw[if_pos hj,j1];rfl
  ·rw[(qe3 _ _).2.2]at hg
   split at hg
   ·cases hg
   ·rename_i hb;exact .inr ⟨hb,hg⟩
theorem qgz (hlt:∀ b∈ρ,b<H.next):Logged H (qgw H ρ q obs'):=by
 refine⟨by rw[qgx];omega,?_,fun hb b cs hbc=>?_⟩
 ·obtain⟨m1,k1,k2⟩:=(qe3 ρ H).2.1
  obtain⟨m2,k3,_⟩:=(qgu (ρ.take q) ((obs'.take q).map (qgq (gmu H ρ q))) (qe2 H ρ)).2.1
  refine⟨m2++m1,?_,fun b hb hm=>?_⟩
  ·unfold qgw
   rw[(qe1 _ _).2.1,k3,k1,List.append_assoc]
  ·rw[List.mem_append,not_or]at hm
   have hbr:=k2 b hm.2
   unfold qgw
   rw[(qe1 _ _).2.2,(qgu _ _ _).1,(qe3 _ _).1,if_neg (by omega),qgv _ _ _ b (fun h=>hbr (List.mem_of_mem_take h)),(qe3 _ _).2.2,if_neg hbr]
 ·unfold qgw at hbc
  rw[(qe1 _ _).2.2,(qgu _ _ _).1,(qe3 _ _).1]at hbc
  show b<(qgw H ρ q obs').next
  rw[qgx]
  split at hbc
  ·rename_i h
   have:=(List.getElem?_eq_some_iff.1 hbc).1
   rw[List.length_map,List.length_drop]at this
   omega
  ·have:b<H.next:=by
    rcases (qgu _ _ _).2.2 b cs hbc with⟨j,j1,_⟩ | hg
    ·exact hlt b (List.mem_of_mem_take (List.mem_of_getElem? j1))
    ·rw[(qe3 _ _).2.2]at hg
     split at hg
     ·cases hg
     ·exact hb b cs hg
   omega
end
section
variable {P:Program} {H:LH}
theorem qh0 {S:GSpec} (hS:COKG P S) {az az':List LV} {ρ:List Nat} {obs:List Ob} {x:S.X} {r:S.R} (hn:q9c ρ=true) (h1:rens ρ az=some az') (h2:q98 H ρ ρ=some obs) (hd:S.dec az' obs=some x) (hF:S.F x=some r)
 (hq:S.q<=ρ.length) (hq':S.q<=(S.obs' r).length) (hok:∀ ob∈S.obs' r,okOb ob=true) (hlt:∀ b∈ρ,b<H.next):q5y P S.g az H (mapR (gmu H ρ S.q) (S.res r),qgw H ρ S.q (S.obs' r)):=by
 obtain⟨d1,d2⟩:=hS.dec _ _ _ hd
 refine⟨qgz hlt,fun M η w vs h hM hv=>?_⟩
 have hM:H.next+((S.obs' r).length-S.q)<=M:=by rw[← qgx (H:=H) (ρ:=ρ)];exact hM
 have hr0:=q9e hn h2 h
 have hargs:=rens_ok ρ h1 hv
 obtain⟨o1,o2⟩:=q99 ρ h2
 have hLB:∀ k,LB (q8m (S.obs x)) (η.sub ρ) k->∃ n ob L,n∈ρ/\H.get n=some ob/\η.loc n=some L/\L.block=k:=fun k ⟨j,ob',L,hj,hL,hk⟩=>by
  rw[q8p,← d2]at hj
  obtain⟨n,ob,g1,g2,_⟩:=o2 j ob' hj
  refine⟨n,ob,L,List.mem_of_getElem? g1,g2,?_,hk⟩
  unfold Emb.sub at hL
  simpa only[g1,Option.bind_some] using hL
 have hLBH:∀ k,LB (q8m (S.obs x)) (η.sub ρ) k->LB H η k:=fun k hk=>let ⟨n,ob,L,_,g2,g3,g4⟩:=hLB k hk;⟨n,ob,L,g2,g3,g4⟩
 have hno:∀ b ob L,b∉ρ->H.get b=some ob->η.loc b=some L->¬ LB (q8m (S.obs x)) (η.sub ρ) L.block:=fun b ob L hb hg hL hk=>by
  obtain⟨n,ob2,L2,g1,g2,g3,g4⟩:=hLB _ hk
  have:=h.inj _ _ _ _ _ _ hg g2 hL g3 g4.symm
  subst this
  exact hb g1
 refine Calls.mono (hS.ok x r hF w (η.sub ρ) vs (by rw[← d2];exact hr0) (by rw[← d1];exact hargs)) fun e w' ⟨v',η',e0,e1,e2,e3,e4⟩=>?_
 let η2:Emb:=⟨fun n=>if n<H.next∨H.next+((S.obs' r).length-S.q)<=n then η.loc n else η'.loc (S.q+(n-H.next)),fun n=>if n<H.next∨H.next+((S.obs' r).length-S.q)<=n then η.hdr n else η'.hdr (S.q+(n-H.next)),η'.fz⟩
 have l1:∀ n,(n<H.next∨H.next+((S.obs' r).length-S.q)<=n)->η2.loc n=η.loc n/\η2.hdr n=η.hdr n:=fun n hn=>⟨if_pos hn,if_pos hn⟩
 have l2:∀ n,¬ (n<H.next∨H.next+((S.obs' r).length-S.q)<=n)->η2.loc n=η'.loc (S.q+(n-H.next))/\η2.hdr n=η'.hdr (S.q+(n-H.next)):=fun n hn=>⟨if_neg hn,if_neg hn⟩
 have hmaps:Maps (gmu H ρ S.q) (S.obs' r).length η' η2:=by
  refine⟨fun n hn=>?_,fun n hn=>(e2 (n+1)).dom n hn (Nat.lt_succ_self n),fun _ _ hk=>hk⟩
  by_cases c:n<S.q
  ·obtain⟨b,hb⟩:∃ b,ρ[n]?=some b:=⟨_,List.getElem?_eq_getElem (by omega)⟩
   have hmu:gmu H ρ S.q n=b:=by unfold gmu;rw[if_pos c,hb];rfl
   have hbl:=hlt b (List.mem_of_getElem? hb)
   rw[hmu,(l1 b (.inl hbl)).1,(l1 b (.inl hbl)).2,(e3 n c).1,(e3 n c).2]
   unfold Emb.sub
   simp only[hb,Option.bind_some,and_self]
  ·have hmu:gmu H ρ S.q n=H.next+(n-S.q):=by unfold gmu;rw[if_neg c]
   have hno2:¬ (H.next+(n-S.q)<H.next∨H.next+((S.obs' r).length-S.q)<=H.next+(n-S.q)):=by omega
   rw[hmu,(l2 _ hno2).1,(l2 _ hno2).2,show S.q+(H.next+(n-S.q)-H.next)=n by omega]
   exact⟨rfl,rfl⟩
 have hle:η.le η2:=by
  refine⟨fun b L hb=>?_,fun b v hb=>?_,fun k ob hk=>e4.fz0 k ob hk⟩
  ·by_cases c:b<H.next∨H.next+((S.obs' r).length-S.q)<=b
   ·rw[(l1 b c).1];exact hb
   ·have:=(h.dom b (by omega) (by omega)).1
    rw[this]at hb;cases hb
  ·by_cases c:b<H.next∨H.next+((S.obs' r).length-S.q)<=b
   ·rw[(l1 b c).2];exact hb
   ·have:=(h.dom b (by omega) (by omega)).2
    rw[this]at hb;cases hb
 -- what is live afterwards
 have hget:∀ b ob,(qgw H ρ S.q (S.obs' r)).get b=some ob->(∃ (j:Nat) (ob0:Ob),(S.obs' r)[j]?=some ob0/\ob=qgq (gmu H ρ S.q) ob0/\b=gmu H ρ S.q j/\j<(S.obs' r).length)∨(b∉ρ/\H.get b=some ob/\b<H.next):=fun b ob hb=>by
  rcases qgy hq hq' hb with⟨j,ob0,j1,j2,j3⟩ | ⟨j1,j2⟩
  ·exact .inl ⟨j,ob0,j1,j2,j3,(List.getElem?_eq_some_iff.1 j1).1⟩
  ·exact .inr ⟨j1,j2,h.lt b ob j2⟩
 have hnew:∀ (j:Nat) (ob0:Ob),(S.obs' r)[j]?=some ob0->(q8m (S.obs' r)).get j=some ob0:=fun j ob0 hj=>by rw[q8p];exact hj
 have hnl:∀ (j:Nat) (ob0:Ob) (L:Loc),(S.obs' r)[j]?=some ob0->j<(S.obs' r).length->η2.loc (gmu H ρ S.q j)=some L->η'.loc j=some L/\LB (q8m (S.obs' r)) η' L.block:=fun j ob0 L hj hjl hL=>by
  rw[(hmaps.at_ j hjl).1]at hL
  exact⟨hL,j,ob0,L,hnew j ob0 hj,hL,rfl⟩
 have hold:∀ b ob L,b∉ρ->H.get b=some ob->b<H.next->η2.loc b=some L->η.loc b=some L/\L.block<w.heap.size/\¬ LB (q8m (S.obs x)) (η.sub ρ) L.block:=fun b ob L hb hg hbl hL=>by
  rw[(l1 b (.inl hbl)).1]at hL
  exact⟨hL,(h.live b ob hg).lt hL,hno b ob L hb hg hL⟩
 have hclash:∀ k,LB (q8m (S.obs' r)) η' k->k<w.heap.size->¬ LB (q8m (S.obs x)) (η.sub ρ) k->False:=fun k hk hs hx=>by
  rcases e4.lb k hk with h3 | h3
  ·omega
  ·exact hx h3
 have hlbk:∀ k,LB (qgw H ρ S.q (S.obs' r)) η2 k->LB (q8m (S.obs' r)) η' k∨(LB H η k/\k<w.heap.size/\¬ LB (q8m (S.obs x)) (η.sub ρ) k):=fun k ⟨b,ob,L,hb,hL,hk⟩=>by
  rcases hget b ob hb with⟨j,ob0,j1,_,rfl,jl⟩ | ⟨j1,j2,j3⟩
  ·have:=(hnl j ob0 L j1 jl hL).2
   rw[hk]at this;exact .inl this
  ·obtain⟨g1,g2,g3⟩:=hold b ob L j1 j2 j3 hL
   rw[hk]at g2 g3
   exact .inr ⟨⟨b,ob,L,j2,g1,hk⟩,g2,g3⟩
 refine⟨v',η2,e0,qgp hmaps e1,⟨hle,fun b hb=>l1 b (by rw[qgx]at hb;exact hb),by rw[qgx];omega,⟨fun b hb hbM=>?_,fun b ob hb=>?_,fun b ob hb=>?_,fun b1 b2 ob1 ob2 L1 L2 k1 k2 t1 t2 he=>?_,fun k ob hk=>(e2 0).fz k ob hk,fun k hk=>?_,fun b v hb=>?_⟩,e4.size,fun k hk hl=>e4.same k hk fun hx=>hl (hLBH k hx),fun k hk=>?_,fun k ob hk=>?_,e4.os,e4.tape,e4.output,e4.drawn⟩⟩
 ·rw[qgx]at hb
  rw[(l1 b (.inr hb)).1,(l1 b (.inr hb)).2]
  exact h.dom b (by omega) hbM
 ·rw[qgx]
  rcases hget b ob hb with⟨j,ob0,j1,_,rfl,jl⟩ | ⟨_,_,j3⟩
  ·unfold gmu
   split
   ·rename_i c
    obtain⟨b,hb⟩:∃ b,ρ[j]?=some b:=⟨_,List.getElem?_eq_getElem (by omega)⟩
    rw[hb]
    have:=hlt b (List.mem_of_getElem? hb)
    show b<_
    omega
   ·omega
  ·omega
 ·rcases hget b ob hb with⟨j,ob0,j1,rfl,rfl,jl⟩ | ⟨j1,j2,j3⟩
  ·exact qgs hmaps jl (hok ob0 (List.mem_of_getElem? j1)) ((e2 0).live j ob0 (hnew j ob0 j1))
  ·exact (h.live b ob j2).move hle (l1 b (.inl j3)).1 e4.size fun L hL=>e4.same _ ((h.live b ob j2).lt hL) (hno b ob L j1 j2 hL)
 ·rcases hget b1 ob1 k1 with⟨j1,p1,a1,_,rfl,c1⟩ | ⟨a1,a2,a3⟩
  ·rcases hget b2 ob2 k2 with⟨j2,p2,b1,_,rfl,c2⟩ | ⟨b1,b2,b3⟩
   ·obtain⟨g1,_⟩:=hnl j1 p1 L1 a1 c1 t1
    obtain⟨g2,_⟩:=hnl j2 p2 L2 b1 c2 t2
    rw[(e2 0).inj _ _ _ _ _ _ (hnew j1 p1 a1) (hnew j2 p2 b1) g1 g2 he]
   ·obtain⟨_,g1⟩:=hnl j1 p1 L1 a1 c1 t1
    obtain⟨_,g2,g3⟩:=hold _ ob2 L2 b1 b2 b3 t2
    rw[he]at g1
    exact (hclash _ g1 g2 g3).elim
  ·rcases hget b2 ob2 k2 with⟨j2,p2,b1,_,rfl,c2⟩ | ⟨b1,b2,b3⟩
   ·obtain⟨_,g1⟩:=hnl j2 p2 L2 b1 c2 t2
    obtain⟨_,g2,g3⟩:=hold _ ob1 L1 a1 a2 a3 t1
    rw[← he]at g1
    exact (hclash _ g1 g2 g3).elim
   ·exact h.inj _ _ _ _ _ _ a2 b2 (hold _ _ _ a1 a2 a3 t1).1 (hold _ _ _ b1 b2 b3 t2).1 he
 ·rcases hlbk k hk with h3 | ⟨h3,h4,h5⟩
  ·exact (e2 0).sep k h3
  ·cases hf:η'.fz k with
   | none=>rfl
   | some o =>
    exfalso
    rcases e4.fzn k o hf with h6 | h6 | h6
    ·have:=h.sep k h3
     have h6':η.fz k=some o:=h6
     rw[this]at h6';cases h6'
    ·omega
    ·exact h5 h6
 ·by_cases c:b<H.next∨H.next+((S.obs' r).length-S.q)<=b
  ·rw[(l1 b c).2]at hb;exact h.ok b v hb
  ·rw[(l2 b c).2]at hb;exact (e2 0).ok _ v hb
 ·rcases hlbk k hk with h3 | ⟨h3,_,_⟩
  ·rcases e4.lb k h3 with h4 | h4
   ·exact .inr h4
   ·exact .inl (hLBH k h4)
  ·exact .inl h3
 ·rcases e4.fzn k ob hk with h6 | h6 | h6
  ·exact .inl h6
  ·exact .inr (.inr h6)
  ·exact .inr (.inl (hLBH k h6))
def nub:List Nat->List Nat->List Nat
 | [],acc=>acc
 | x::l,acc=>bif memB acc x then nub l acc else nub l (acc ++ [x])
def qh1 (H:LH) (args:List LV):List Nat:=match nub (args.flatMap q75) [] with
 | D=>q77 H 1000 (D.flatMap fun n=>match H.get n with | some ob=>q76 ob | none=>[]) D
def orcG (S:GSpec) (C:Orc):Orc:=fun h args H =>
 bif Nat.beq h S.g then (match qh1 H args with
  | ρ => bif q9c ρ && ρ.all (fun b => Nat.blt b H.next) && Nat.ble S.q ρ.length then (match rens ρ args, q98 H ρ ρ with
   | some az', some obs => (match S.dec az' obs with
    | some x=>some ⟨S.R,S.F x,fun r=>(mapR (gmu H ρ S.q) (S.res r),qgw H ρ S.q (S.obs' r))⟩
    | none=>none)
   | _,_=>none) else none) else C h args H
theorem qh2 {S:GSpec} (hS:COKG P S) {C:Orc} (hC:OrcOK P C):OrcOK P (orcG S C):=by
 refine⟨fun h args H p y hp' hy=>?_⟩
 unfold orcG at hp'
 rw[Bool.cond_eq_ite]at hp'
 split at hp'
 ·rename_i he
  have he:=Nat.eq_of_beq_eq_true he
  subst he
  generalize qh1 H args=ρ at hp'
  simp only at hp'
  rw[Bool.cond_eq_ite]at hp'
  split at hp'
  ·rename_i hb
   rw[Bool.and_eq_true,Bool.and_eq_true]at hb
   obtain⟨⟨b1,b2⟩,b3⟩:=hb
   split at hp'
   ·rename_i az' obs h1 h2
    split at hp'
    ·rename_i x hx
     injection hp' with hp'
     subst hp'
     have hc:=hS.form y
     refine .inl ⟨qh0 hS b1 h1 h2 hx hy (Nat.le_of_ble_eq_true b3) (Nat.le_of_ble_eq_true hc.1) (List.all_eq_true.1 hc.2) fun b hb=>?_,hS.body⟩
     have:=List.all_eq_true.1 b2 b hb
     simp[Nat.blt]at this
     omega
    ·cases hp'
   ·cases hp'
  ·cases hp'
 ·exact hC.call h args H p y hp' hy
end
end Go.Tx
namespace Go.Tx
open Go
def dstC (ns:List Nat):Code->Bool
 | .region _ ops _=>dstB ns ops
 | .seq x y=>dstC ns x&&dstC ns y
 | .cond _ x y=>dstC ns x&&dstC ns y
 | .block _ x=>dstC ns x
 | .loop x=>dstC ns x
 | .scope x=>dstC ns x
 | _=>true
section
variable {β:Type} {P:Program} {T:Tys} {C:Orc} {N:Nat} {V:Nat->Value->Prop} {w0:World} {φ0:Fz0}
theorem qh3 {ks:Option (List (Nat×Kd))} {s s':St} {a:Act} {w:World} (h:qf1 ks s=some s') (hs:SS w0 φ0 N s a w):SS w0 φ0 N s' a w:=by
 cases ks with
 | none=>injection h with h;subst h;exact hs
 | some kinds=>exact qew (Q:=fun _ a w=>SS w0 φ0 N s' a w) (e:=.normal) kinds h (fun a w h=>h) a w hs
theorem qh4 {R:Type} {r:R} {G:Nat->St->Option R} {c:Code} {Q:Exit->Act->World->Prop} (h0:∀ x,G 0 x=none)
 (hs:∀ n x,G (n+1) x=some r->∀ K:Act->World->Prop,(∀ y,G n y=some r->CnK V w0 φ0 N y (Exit.then K Q) .normal)->RunK P V w0 φ0 N c x (Exit.then K Q)) (n:Nat) (x:St) (h:G n x=some r):RunK P V w0 φ0 N (.loop c) x Q:=by
 have key:∀ n x,G n x=some r->∀ a w,SS w0 φ0 N x a w->KT V a->Code.rounds P c Q n a w:=by
  intro n
  induction n with
  | zero=>intro x hx;rw[h0]at hx;cases hx
  | succ n ih =>
   intro x hx a w hss hv
   rw[rounds_succ]
   exact hs n x hx _ (fun y hy=>ih y hy) a w hss hv
 exact fun a w hss hv=>wp_loop_rounds n (key n x h a w hss hv)
theorem qh5 (hm:P.follows .mixedOrders=true) (hT:TysOK P T) (hC:OrcOK P C) {ns:List Nat} (hV:∀ n v,V n v->n∈ns) {pl:Plan} {d:Nat} {r:β}:∀ (c:Code) {k:Out->St->Option β} {s:St} {Q:Exit->Act->World->Prop},dstC ns c=true->evC T C N pl d c k s=some r->(∀ e s',k e s'=some r->CnK V w0 φ0 N s' Q e.ex)->RunK P V w0 φ0 N c s Q
 | .skip,k,s,Q,hd,h,hk=>qg6 (hk .n s h)
 | .label _,k,s,Q,hd,h,hk=>qg7 (hk .n s h)
 | .region id ops draw, k, s, Q, hd, h, hk => by
  unfold evC at h
  split at h
  ·obtain⟨s',h3,h4⟩:=q9h (D:=φ0.D) hm hT hC h
   intro a w hs hv
   have h5:=qfv hV hd hv (h4 w0 φ0 a w (fun e a w=>e=.normal/\SS w0 φ0 N s' a w) rfl hs fun a' w' h=>⟨rfl,h⟩)
   have h6:(Code.region id ops draw).wp P (QK V fun e a w=>e=.normal/\SS w0 φ0 N s' a w) a w:=by
    cases draw with
    | true=>exact wp_region_any hm h5
    | false=>exact wp_region_list h5
   refine wp_mono h6 fun e a' w' ⟨⟨he,h7⟩,h8⟩=>?_
   subst he
   exact hk .n s' h3 a' w' h7 (h8 rfl)
  ·cases h
 | .seq x y, k, s, Q, hd, h, hk => by
  unfold evC at h
  rw[dstC,Bool.and_eq_true]at hd
  refine qga (qh5 hm hT hC hV x hd.1 h fun e s' h'=>?_)
  cases e with
  | n=>exact qfw (qh5 hm hT hC hV y hd.2 h' hk)
  | r=>exact qfy (hk .r s' h')
  | x i=>exact qfx (hk (.x i) s' h')
 | .cond c x y, k, s, Q, hd, h, hk => by
  unfold evC at h
  rw[dstC,Bool.and_eq_true]at hd
  split at h
  ·rename_i v hv
   exact qge hv h (fun h=>qh5 hm hT hC hV x hd.1 h hk) (fun h=>qh5 hm hT hC hV y hd.2 h hk)
  ·cases h
 | .block i x, k, s, Q, hd, h, hk => by
  unfold evC at h
  refine qgb (qh5 hm hT hC hV x hd h fun e s' h'=>?_)
  cases e with
  | n=>exact qfz (hk .n s' h')
  | r=>exact qg0 (hk .r s' h')
  | x j =>
   simp only at h'
   cases hj:Nat.beq j i with
   | true =>
    rw[hj]at h'
    have:j=i:=Nat.eq_of_beq_eq_true hj
    subst this
    exact qg1 (hk .n s' h')
   | false =>
    rw[hj]at h'
    exact qg2 hj (hk (.x j) s' h')
 | .loop x, k, s, Q, hd, h, hk => by
  unfold evC at h
  split at h
  ·rename_i s1 hs1
   have hloop:RunK P V w0 φ0 N (.loop x) s1 Q:=qh4 (fun _=>rfl) (fun n s2 h2 K hn=>by
    rw[iter]at h2
    refine qh5 hm hT hC hV x hd h2 fun e s' h'=>?_
    cases e with
    | n =>
     simp only at h'
     split at h'
     ·rename_i s3 hs3
      exact fun a w hs hv=>hn s3 h' a w (qh3 hs3 hs) hv
     ·cases h'
    | r=>exact qfy (hk .r s' h')
    | x i=>exact qfx (hk (.x i) s' h')) d s1 h
   exact fun a w hs hv=>hloop a w (qh3 hs1 hs) hv
  ·cases h
 | .exit i,k,s,Q,hd,h,hk=>qg8 (hk (.x i) s h)
 | .ret,k,s,Q,hd,h,hk=>qg9 (hk .r s h)
 | .scope x, k, s, Q, hd, h, hk => by
  unfold evC at h
  refine qgc (qh5 hm hT hC hV x hd h fun e s' h'=>?_)
  cases e with
  | n=>exact qg3 (hk .n s' h')
  | r=>exact qg5 (hk .r s' h')
  | x i=>exact qg4 (hk (.x i) s' h')
 | .rangeFunc _ _ _ _,_,_,_,_,h,_=>by unfold evC at h;cases h
 | .goto _,_,_,_,_,h,_=>by unfold evC at h;cases h
end
mutual
def qh6 (q:Nat) (pr:Nat->Bool):LV->Bool
 | .ptr n _=>Nat.ble q n
 | .rp n _ _ _=>Nat.ble q n
 | .mp n=>Nat.ble q n
 | .rs n=>pr n
 | .fn _ cs=>okRefs q pr cs
 | .agg cs=>okRefs q pr cs
 | .tup cs=>okRefs q pr cs
 | .undef | .int _ _ | .bool _ | .nilp | .str _ | .nils | .fz _ _ | .fp _ _ _=>true
def okRefs (q:Nat) (pr:Nat->Bool):List LV->Bool
 | []=>true
 | c::cs=>qh6 q pr c&&okRefs q pr cs
end
structure Agr (q:Nat) (pr:Nat->Bool) (η η':Emb):Prop where
 loc:∀ n,q<=n->η'.loc n=η.loc n
 hdr:∀ n,(q<=n∨pr n=true)->η'.hdr n=η.hdr n
 fz:∀ k ob,η.fz k=some ob->η'.fz k=some ob
section
variable {q:Nat} {pr:Nat->Bool} {η η':Emb}
mutual
theorem qh7 (hA:Agr q pr η η'):∀ {l:LV} {v:Value},qh6 q pr l=true->VR η l v->VR η' l v
 | .ptr n o, v, h, hv => by
  rw[qh6]at h
  cases hv with | ptr hL=>exact .ptr (by rw[hA.loc n (Nat.le_of_ble_eq_true h)];exact hL)
 | .rp n i sz c, v, h, hv => by
  rw[qh6]at h
  have h:=Nat.le_of_ble_eq_true h
  cases hv with | rp hL hh hi=>exact .rp (by rw[hA.loc n h];exact hL) (by rw[hA.hdr n (.inl h)];exact hh) hi
 | .rs n, v, h, hv => by
  rw[qh6]at h
  cases hv with | rs hh=>exact .rs (by rw[hA.hdr n (.inr h)];exact hh)
 | .mp n, v, h, hv => by
  rw[qh6]at h
  cases hv with | mp hL=>exact .mp (by rw[hA.loc n (Nat.le_of_ble_eq_true h)];exact hL)
 | .fn f cs, v, h, hv => by
  rw[qh6]at h
  cases hv with
  | fn hl hh =>
   have:=okRefs_ok hA (cs:=cs) h ⟨hl,hh⟩
   exact .fn this.1 this.2
 | .agg cs, v, h, hv => by
  rw[qh6]at h
  cases hv with
  | agg hl hh =>
   have:=okRefs_ok hA (cs:=cs) h ⟨hl,hh⟩
   exact .agg this.1 this.2
 | .tup cs, v, h, hv => by
  rw[qh6]at h
  cases hv with
  | tup hl hh =>
   have:=okRefs_ok hA (cs:=cs) h ⟨hl,hh⟩
   exact .tup this.1 this.2
 | .undef,v,_,hv=>.undef v
 | .int k n,v,_,hv=>by cases hv;exact .int _ _
 | .bool b,v,_,hv=>by cases hv;exact .bool _
 | .nilp,v,_,hv=>by cases hv;exact .nilp
 | .str s,v,_,hv=>by cases hv;exact .str _
 | .nils,v,_,hv=>by cases hv;exact .nils
 | .fz τ xs,v,_,hv=>qgo hA.fz rfl hv
 | .fp τ x j,v,_,hv=>qgo hA.fz rfl hv
theorem okRefs_ok (hA:Agr q pr η η'):∀ {cs:List LV} {vs:List Value},okRefs q pr cs=true->VRs η cs vs->VRs η' cs vs
 | [],vs,_,h=>⟨h.1,fun i c v hc=>by simp at hc⟩
 | c::cs, vs, hk, h => by
  rw[okRefs,Bool.and_eq_true]at hk
  obtain⟨v,vs',rfl,h1,h2⟩:=h.uncons
  exact VRs.cons (qh7 hA hk.1 h1) (okRefs_ok hA hk.2 h2)
end
end
mutual
def occ:LV->List (Nat×Nat)
 | .rs n=>[(0,n)]
 | .ptr n _=>[(1,n)]
 | .fn _ cs=>occs cs
 | .agg cs=>occs cs
 | .tup cs=>occs cs
 | .undef | .int _ _ | .bool _ | .nilp | .str _ | .nils | .fz _ _ | .fp _ _ _ | .rp _ _ _ _ | .mp _=>[]
def occs:List LV->List (Nat×Nat)
 | []=>[]
 | c::cs=>occ c++occs cs
end
mutual
def pinB:LV->LV->Bool
 | .rs a,.rs b=>Nat.beq a b
 | .ptr a o,.ptr b p=>Nat.beq a b&&Nat.beq o p
 | .agg cs,.agg ds=>pinsB cs ds
 | .fn _ cs,.fn _ ds=>pinsB cs ds
 | .tup cs,.tup ds=>pinsB cs ds
 | .undef,_ | .int _ _,_ | .bool _,_ | .nilp,_ | .str _,_ | .nils,_ | .fz _ _,_ | .fp _ _ _,_ | .rp _ _ _ _,_ | .mp _,_=>true
 | _,_=>false
def pinsB:List LV->List LV->Bool
 | [],[]=>true
 | c::cs,d::ds=>pinB c d&&pinsB cs ds
 | _,_=>false
end
def qh9 (η0 η1:Emb) (p:Nat×Nat):Prop:=if p.1=0 then ∃ v,η0.hdr p.2=some v/\η1.hdr p.2=some v else ∃ L0 L1,η0.loc p.2=some L0/\η1.loc p.2=some L1/\L0.block=L1.block/\L0.base=L1.base
section
variable {η0 η1:Emb}
mutual
theorem qha:∀ {l0 l1:LV} {v:Value},pinB l0 l1=true->VR η0 l0 v->VR η1 l1 v->∀ p∈occ l0,qh9 η0 η1 p
 | .rs a, l1, v, h, h0, h1, p, hp => by
  rw[occ,List.mem_singleton]at hp
  subst hp
  cases l1 with
  | rs b =>
   rw[pinB]at h
   have:=Nat.eq_of_beq_eq_true h
   subst this
   cases h0 with | rs g0=>cases h1 with | rs g1=>exact⟨_,g0,g1⟩
  | _=>simp[pinB]at h
 | .ptr a o, l1, v, h, h0, h1, p, hp => by
  rw[occ,List.mem_singleton]at hp
  subst hp
  cases l1 with
  | ptr b o' =>
   rw[pinB,Bool.and_eq_true]at h
   have e1:=Nat.eq_of_beq_eq_true h.1
   have e2:=Nat.eq_of_beq_eq_true h.2
   subst e1 e2
   cases h0 with
   | ptr g0 =>
    generalize hvv:(Value.pointer _)=vv at h1
    cases h1 with
    | ptr g1 =>
     injection hvv with hvv
     injection hvv with hvv
     injection hvv with k1 k2
     exact⟨_,_,g0,g1,k1,by omega⟩
  | _=>simp[pinB]at h
 | .agg cs, l1, v, h, h0, h1, p, hp => by
  rw[occ]at hp
  cases l1 with
  | agg ds =>
   rw[pinB]at h
   cases h0 with
   | agg a1 a2 =>
    rename_i vs
    generalize hvv:(Value.agg vs.toArray)=vv at h1
    cases h1 with
    | agg b1 b2 =>
     injection hvv with hvv
     have hvv:=congrArg Array.toList hvv
     simp only at hvv
     subst hvv
     exact pins_ok h ⟨a1,a2⟩ ⟨b1,b2⟩ p hp
  | _=>simp[pinB]at h
 | .fn f cs, l1, v, h, h0, h1, p, hp => by
  rw[occ]at hp
  cases l1 with
  | fn g ds =>
   rw[pinB]at h
   cases h0 with
   | fn a1 a2 =>
    rename_i vs
    generalize hvv:(Value.func (.func f) #[] vs.toArray)=vv at h1
    cases h1 with
    | fn b1 b2 =>
     injection hvv with _ _ hvv
     have hvv:=congrArg Array.toList hvv
     simp only at hvv
     subst hvv
     exact pins_ok h ⟨a1,a2⟩ ⟨b1,b2⟩ p hp
  | _=>simp[pinB]at h
 | .tup cs, l1, v, h, h0, h1, p, hp => by
  rw[occ]at hp
  cases l1 with
  | tup ds =>
   rw[pinB]at h
   cases h0 with
   | tup a1 a2 =>
    rename_i vs
    generalize hvv:(Value.tuple vs.toArray)=vv at h1
    cases h1 with
    | tup b1 b2 =>
     injection hvv with hvv
     have hvv:=congrArg Array.toList hvv
     simp only at hvv
     subst hvv
     exact pins_ok h ⟨a1,a2⟩ ⟨b1,b2⟩ p hp
  | _=>simp[pinB]at h
 | .undef,_,_,_,_,_,p,hp | .int _ _,_,_,_,_,_,p,hp | .bool _,_,_,_,_,_,p,hp | .nilp,_,_,_,_,_,p,hp | .str _,_,_,_,_,_,p,hp | .nils,_,_,_,_,_,p,hp | .fz _ _,_,_,_,_,_,p,hp | .fp _ _ _,_,_,_,_,_,p,hp | .rp _ _ _ _,_,_,_,_,_,p,hp | .mp _,_,_,_,_,_,p,hp=>by rw[occ]at hp;cases hp
theorem pins_ok:∀ {cs ds:List LV} {vs:List Value},pinsB cs ds=true->VRs η0 cs vs->VRs η1 ds vs->∀ p∈occs cs,qh9 η0 η1 p
 | [],ds,vs,_,_,_,p,hp=>by rw[occs]at hp;cases hp
 | c::cs, ds, vs, h, h0, h1, p, hp => by
  cases ds with
  | nil=>simp[pinsB]at h
  | cons d ds =>
   rw[pinsB,Bool.and_eq_true]at h
   rw[occs,List.mem_append]at hp
   obtain⟨v,vs',rfl,a1,a2⟩:=h0.uncons
   obtain⟨v',vs'',e,b1,b2⟩:=h1.uncons
   injection e with e1 e2
   subst e1 e2
   rcases hp with hp | hp
   ·exact qha h.1 a1 b1 p hp
   ·exact pins_ok h.2 a2 b2 p hp
end
end
end Go.Tx
namespace Go.Tx
open Go
def qhb:Ob->Ob->Bool
 | .cells cs,.cells ds=>Nat.beq cs.length ds.length
 | .rows τ _,.rows σ _=>decide (τ=σ)
 | _,_=>false
def posO:Ob->Bool
 | .rows _ xs=>Nat.blt 0 xs.length
 | _=>true
def posq:Nat->List Ob->Bool
 | 0,_=>true
 | q+1,ob::obs=>posO ob&&posq q obs
 | _+1,[]=>false
theorem qhc:∀ {q:Nat} {obs:List Ob},posq q obs=true->∀ (j:Nat) (ob:Ob),j<q->obs[j]?=some ob->posO ob=true
 | q + 1, ob::obs, h, 0, ob', _, he => by
  rw[posq,Bool.and_eq_true]at h
  simp only[List.getElem?_cons_zero,Option.some.injEq]at he
  subst he
  exact h.1
 | q + 1, ob::obs, h, j + 1, ob', hj, he => by
  rw[posq,Bool.and_eq_true]at h
  exact qhc h.2 j ob' (by omega) (by simpa using he)
 | q+1,[],h,_,_,_,_=>by cases h
def qhd:Ob->Bool
 | .rows _ _=>true
 | _=>false
def memP:List (Nat×Nat)->Nat->Nat->Bool
 | [],_,_=>false
 | p::l,k,j=>(Nat.beq p.1 k&&Nat.beq p.2 j) || memP l k j
theorem qhe:∀ {l:List (Nat×Nat)} {k j:Nat},memP l k j=true->(k,j)∈l
 | [],_,_,h=>by cases h
 | p::l, k, j, h => by
  rw[memP,Bool.or_eq_true,Bool.and_eq_true]at h
  rcases h with⟨h1,h2⟩ | h
  ·have e1:=Nat.eq_of_beq_eq_true h1
   have e2:=Nat.eq_of_beq_eq_true h2
   subst e1 e2
   exact List.mem_cons_self ..
  ·exact List.mem_cons_of_mem _ (qhe h)
def qhf (q:Nat) (as0:List LV) (obs0 obs':List Ob):Bool:=(List.range q).all fun j=>match obs0[j]?,obs'[j]? with
 | some o,some o'=>qhb o o'&&memP (occs as0) (bif qhd o then 0 else 1) j
 | _,_=>false
def prN (q:Nat) (obs':List Ob) (n:Nat):Bool:=Nat.ble q n || (match obs'[n]? with | some o=>qhd o | none=>false)
def obsK (q:Nat) (obs':List Ob):Bool:=obs'.all fun ob=>okOb ob&&(match ob with | .cells cs=>okRefs q (prN q obs') cs | _=>true)
def finG (T:Tys) (rs:List ResultVar) (ps:List Nat) (as0:List LV) (obs0:List Ob) (q:Nat) (s:St):Option (LV×List Ob) :=
 match tres T s rs with
 | some ls => match nub ((ps.map fun p => stev s (.tmp p)).flatMap q75) [] with
  | D => match q77 (q8m s.ob) 1000 ((D.flatMap fun n => match (q8m s.ob).get n with | some ob => q76 ob | none => []) ++ ls.flatMap q75) D with
   | ρ => bif q9c ρ then (match rens ρ (ps.map fun p => stev s (.tmp p)), rens ρ ls, q98 (q8m s.ob) ρ ρ with
    | some A',some ls',some obs'=>bif pinsB as0 A'&&qhf q as0 obs0 obs'&&qh6 q (prN q obs') (xone ls')&&obsK q obs'&&Nat.ble q obs'.length then some (xone ls',obs') else none
    | _,_,_=>none) else none
 | none=>none
def qhg (ps:List Nat) (az:List LV):List LV:=ps.map fun p=>(az[p]?).getD .undef
theorem qhh {η0 η1:Emb} {w w':World} {j:Nat} {o o':Ob} (h0:Lv η0 w j o) (h1:Lv η1 w' j o') (hs:qhb o o'=true) (hpos:posO o=true) (hp:qh9 η0 η1 ((bif qhd o then 0 else 1),j)):η1.loc j=η0.loc j:=by
 cases h0 with
 | cells hL ha hl =>
  cases h1 with
  | cells hL' ha' hl' =>
   have hlen:_=_:=Nat.eq_of_beq_eq_true hs
   unfold qh9 at hp
   simp only[qhd,cond_false,if_neg (show ¬ ((1:Nat)=0) by decide)]at hp
   obtain⟨L0,L1,g0,g1,k1,k2⟩:=hp
   rw[hL]at g0;injection g0 with g0;subst g0
   rw[hL']at g1;injection g1 with g1;subst g1
   rename_i cs L cs' L'
   obtain⟨a1,a2,a3⟩:=L
   obtain⟨b1,b2,b3⟩:=L'
   simp only at k1 k2 hl hl'
   subst k1 k2
   have:a3=b3:=by omega
   subst this
   rw[hL,hL']
  | _=>cases hs
 | rows hL ha hh hc hr =>
  rename_i τ xs L c
  unfold qh9 at hp
  simp only[qhd,cond_true,if_true]at hp
  obtain⟨v,g0,g1⟩:=hp
  rw[hh]at g0;injection g0 with g0;subst g0
  cases h1 with
  | rows hL' ha' hh' hc' hr' =>
   rename_i σ ys L' c'
   simp only[qhb,decide_eq_true_eq]at hs
   subst hs
   rw[hh']at g1;injection g1 with g1;injection g1 with e1 e2 e3
   injection e1 with e1;injection e1 with e4 e5 _
   obtain⟨a1,a2,a3⟩:=L
   obtain⟨b1,b2,b3⟩:=L'
   simp only at e4 e5 hr hr'
   subst e4 e5 e3
   have:a3=b3:=by omega
   subst this
   rw[hL,hL']
  | none hL' hh' =>
   rw[hh']at g1;injection g1 with g1;injection g1 with e1 e2 e3
   have:0<xs.length:=by simp[posO,Nat.blt]at hpos;omega
   omega
  | _=>cases hs
 | none hL hh=>simp[posO,Nat.blt]at hpos
 | rowl=>cases hs
 | view=>cases hs
 | pref=>cases hs
 | imap=>cases hs
section
variable {q:Nat} {pr:Nat->Bool} {η η':Emb}
theorem qhi (hA:Agr q pr η η') {w:World} {n:Nat} (e1:η'.loc n=η.loc n) {ob:Ob} (e2:qhd ob=true->η'.hdr n=η.hdr n) (hk:okOb ob=true) (hcs:∀ cs,ob=.cells cs->okRefs q pr cs=true) (h:Lv η w n ob):Lv η' w n ob:=by
 cases h with
 | cells hL ha hl =>
  rename_i cs L
  have hcc:=hcs cs rfl
  have hcut:cut cs 0 cs.length=some cs:=by unfold cut;rw[Nat.zero_add,Nat.ble_eq_true_of_le (Nat.le_refl _),List.drop_zero,List.take_length];rfl
  obtain⟨vs,o1,o2⟩:=Lie.cut ha.cell hcut
  refine .cells (by rw[e1];exact hL) ⟨ha.lt,ha.fits,ha.there,fun i c hcc'=>?_⟩ hl
  obtain⟨v,f1,f2⟩:=(okRefs_ok hA hcc o1).get hcc'
  exact⟨v,by have:=o2 i v f1;rwa[Nat.add_zero]at this,f2⟩
 | rows hL ha hh hc hr=>exact .rows (by rw[e1];exact hL) (qel hk ha) (by rw[e2 rfl];exact hh) hc hr
 | none hL hh=>exact .none (by rw[e1];exact hL) (by rw[e2 rfl];exact hh)
 | rowl=>cases hk
 | view=>cases hk
 | pref=>cases hk
 | imap hL hm' he=>exact .imap (by rw[e1];exact hL) hm' (EsR.mono (fun x v h=>q92 hA.fz h) he)
end
section
variable {P:Program} {T:Tys} {C:Orc}
theorem qhj {η:Emb} {az:List LV} {vs:List Value} (hv:VRs η az vs) {a:Act}:∀ (ps:List Nat),(ps.all fun p=>Nat.blt p az.length)=true->(∀ p∈ps,∀ v,vs[p]?=some v->a.tmps[p]?=some v)->VRs η (qhg ps az) (ps.map fun p=>a.eval (.tmp p))
 | [],_,_=>VRs.nil
 | p::ps, hb, hk => by
  rw[List.all_cons,Bool.and_eq_true]at hb
  have hp:p<az.length:=by have:=hb.1;simp[Nat.blt]at this;omega
  obtain⟨v,e1,e2⟩:=hv.get (List.getElem?_eq_getElem hp)
  have he:a.eval (.tmp p)=v:=by
   show a.tmps.getD p undef=v
   rw[Array.getD_eq_getD_getElem?,hk p (List.mem_cons_self ..) v e1];rfl
  show VRs η ((az[p]?).getD .undef::qhg ps az) (a.eval (.tmp p)::ps.map fun p=>a.eval (.tmp p))
  rw[List.getElem?_eq_getElem hp,he]
  exact VRs.cons e2 (qhj hv ps hb.2 fun p' hp'=>hk p' (List.mem_cons_of_mem _ hp'))
theorem qhk {M N:Nat} {D:List Deferred} {η:Emb} {s:St} {a:Act} {w:World} (hs:SR M N D η (q8k s.tm .lf) (q8m s.ob) a w):∀ (ps:List Nat),VRs η (ps.map fun p=>stev s (.tmp p)) (ps.map fun p=>a.eval (.tmp p))
 | []=>VRs.nil
 | p::ps=>VRs.cons (q63 hs.tr (.tmp p)) (qhk hs ps)
theorem qhl {o o':Ob} (h:qhb o o'=true):qhd o'=qhd o:=by
 cases o<;>cases o'<;>simp_all [qhb,qhd]
theorem qhm (hT:TysOK P T) {fn:Func} {ps:List Nat} {as0:List LV} {obs0:List Ob} {q:Nat} {s:St} {o:LV×List Ob} (h:finG T fn.results.toList ps as0 obs0 q s=some o) {w w':World} {η0:Emb} {a:Act} (h0:∀ M,HR M η0 (q8m obs0) w) (hp:VRs η0 as0 (ps.map fun p=>a.eval (.tmp p))) (hss:SS w (gFz obs0 η0) fn.ntmps s a w') (b6:posq q obs0=true) :
 a.defers=[]/\∃ v,(results fn a.tmps).run P w'=.ok v w'/\∃ v' η',(Ending.returned v)=.returned v'/\VR η' o.1 v'/\(∀ M,HR M η' (q8m o.2) w')/\(∀ j,j<q->η'.loc j=η0.loc j/\η'.hdr j=η0.hdr j)/\Fr w (gFz obs0 η0) (q8m o.2) η' w':=by
 obtain⟨η,hsr,hfr⟩:=hss.sr
 refine⟨hss.defers,?_⟩
 unfold finG at h
 split at h
 ·rename_i ls hls
  generalize nub ((ps.map fun p=>stev s (.tmp p)).flatMap q75) []=D at h
  simp only at h
  generalize q77 (q8m s.ob) 1000 _ D=ρ at h
  rw[Bool.cond_eq_ite]at h
  split at h
  ·rename_i hn
   split at h
   ·rename_i A' ls' obs' hA h1 h2
    rw[Bool.cond_eq_ite]at h
    split at h
    ·rename_i hb
     simp only[Bool.and_eq_true]at hb
     obtain⟨⟨⟨⟨b1,b2⟩,b3⟩,b4⟩,b5⟩:=hb
     injection h with h
     subst h
     obtain⟨us,r1,r2⟩:=qa6 hT (hsr 0) fn.results.toList hls
     have hrun:(results fn a.tmps).run P w'=.ok (if h:us.length=1 then us[0] else .tuple us.toArray) w':=by
      have e5:results fn a.tmps=(do let vs ← fn.results.mapM (qa5 a.tmps);pure (if h:vs.size=1 then vs[0] else .tuple vs)):=by
       unfold results
       refine congrArg (fun f:ResultVar->Sem Value=>(do let vs ← fn.results.mapM f;pure (if h:vs.size=1 then vs[0] else .tuple vs):Sem Value)) ?_
       funext x;cases x<;>rfl
      rw[e5,Array.mapM_eq_mapM_toList]
      simp[r1]
     have r3:=rens_ok ρ h1 r2
     have hlen3:=r3.1
     have hval:VR (η.sub ρ) (xone ls') (if h:us.length=1 then us[0] else .tuple us.toArray):=by
      cases ls' with
      | nil =>
       have:us=[]:=by simpa using hlen3.symm
       subst this;exact .tup r3.1 r3.2
      | cons l ls' =>
       cases ls' with
       | nil =>
        obtain⟨u,rfl,hu⟩:=vrs1 r3
        exact hu
       | cons l2 ls' =>
        have:¬ us.length=1:=by simp at hlen3;omega
        rw[dif_neg this];exact .tup r3.1 r3.2
     have hr:=q9e hn h2 (hsr 0).hr
     have hf:=q9f h2 hfr
     have b5:=Nat.le_of_ble_eq_true b5
     have hpin:=pins_ok b1 hp (rens_ok ρ hA (qhk (hsr 0) ps))
     -- what stays
     have hst:∀ j,j<q->∃ ob ob',obs0[j]?=some ob/\obs'[j]?=some ob'/\qhb ob ob'=true/\qh9 η0 (η.sub ρ) ((bif qhd ob then 0 else 1),j):=fun j hj=>by
      have:=List.all_eq_true.1 b2 j (List.mem_range.2 hj)
      split at this
      ·rename_i ob ob' g1 g2
       rw[Bool.and_eq_true]at this
       exact⟨ob,ob',g1,g2,this.1,hpin _ (qhe this.2)⟩
      ·cases this
     have g0:∀ {os:List Ob} {j:Nat} {ob:Ob},os[j]?=some ob->(q8m os).get j=some ob:=fun h=>by rw[q8p];exact h
     have hloc:∀ j,j<q->(η.sub ρ).loc j=η0.loc j:=fun j hj=>by
      obtain⟨ob,ob',g1,g2,g3,g4⟩:=hst j hj
      exact qhh ((h0 0).live j ob (g0 g1)) ((hr 0).live j ob' (g0 g2)) g3 (qhc b6 j ob hj g1) g4
     let η2:Emb:=⟨(η.sub ρ).loc,fun j=>if j<q then η0.hdr j else (η.sub ρ).hdr j,η.fz⟩
     have hdr1:∀ j,j<q->η2.hdr j=η0.hdr j:=fun j hj=>if_pos hj
     have hdr2:∀ j,q<=j->η2.hdr j=(η.sub ρ).hdr j:=fun j hj=>if_neg (by omega)
     have hrow:∀ j ob',obs'[j]?=some ob'->qhd ob'=true->η2.hdr j=(η.sub ρ).hdr j:=fun j ob' hj hi=>by
      by_cases c:j<q
      ·obtain⟨ob,ob2,g1,g2,g3,g4⟩:=hst j c
       rw[hj]at g2;injection g2 with g2;subst g2
       have:=qhl g3
       rw[hi]at this
       rw[← this]at g4
       unfold qh9 at g4
       simp only[cond_true,if_true]at g4
       obtain⟨v,k1,k2⟩:=g4
       rw[hdr1 j c,k1,k2]
      ·exact hdr2 j (by omega)
     have hAg:Agr q (prN q obs') (η.sub ρ) η2:=by
      refine⟨fun _ _=>rfl,fun n hn=>?_,fun _ _ h=>h⟩
      rcases hn with hn | hn
      ·exact hdr2 n hn
      ·unfold prN at hn
       rw[Bool.or_eq_true]at hn
       rcases hn with hn | hn
       ·exact hdr2 n (Nat.le_of_ble_eq_true hn)
       ·split at hn
        ·rename_i ob hob;exact hrow n ob hob hn
        ·cases hn
     refine⟨_,hrun,_,η2,rfl,qh7 hAg b3 hval,fun M=>?_,fun j hj=>⟨hloc j hj,hdr1 j hj⟩,?_⟩
     ·refine⟨fun b hb hM=>?_,(hr M).lt,fun b ob hb=>?_,(hr M).inj,(hr M).fz,(hr M).sep,fun b v hb=>?_⟩
      ·have hb':obs'.length<=b:=hb
       exact⟨((hr M).dom b hb hM).1,by rw[hdr2 b (by omega)];exact ((hr M).dom b hb hM).2⟩
      ·have hb':=hb
       rw[q8p]at hb'
       have hk:=List.all_eq_true.1 b4 ob (List.mem_of_getElem? hb')
       rw[Bool.and_eq_true]at hk
       refine qhi hAg rfl (hrow b ob hb') hk.1 (fun cs hcs=>?_) ((hr M).live b ob hb)
       subst hcs
       exact hk.2
      ·by_cases c:b<q
       ·rw[hdr1 b c]at hb;exact (h0 0).ok b v hb
       ·rw[hdr2 b (by omega)]at hb;exact (hr 0).ok b v hb
     ·exact⟨hf.size,hf.same,hf.lb,hf.fz0,hf.fzn,hf.os,hf.tape,hf.output,hf.drawn,hf.kp⟩
    ·cases h
   ·cases h
  ·cases h
 ·cases h
def finE (T:Tys) (rs:List ResultVar) (ps:List Nat) (as0:List LV) (obs0:List Ob) (q:Nat):Out->St->Option (LV×List Ob)
 | .x _,_=>none
 | _,s=>finG T rs ps (qhg ps as0) obs0 q s
def qhn (T:Tys) (C:Orc) (fn:Func) (pl:Plan) (d:Nat) (ps:List Nat) (q:Nat) {R:Type} (dr:LV×List Ob->Option R) (as0:List LV) (obs0:List Ob):Option R :=
 bif ps.all fun p=>Nat.blt p as0.length then
  (bif posq q obs0 then evC T C fn.ntmps pl d (qeu fn) (fun e s=>(finE T fn.results.toList ps as0 obs0 q e s).bind dr) ⟨nums 0 as0,obs0⟩ else none)
 else none
theorem qho (hm:P.follows .mixedOrders=true) (hT:TysOK P T) (hC:OrcOK P C) {fn:Func} {pl:Plan} {d:Nat} {g:FuncId} {ps:List Nat} {q:Nat} {X R:Type} {args:X->List LV} {obs:X->List Ob} {dec:List LV->List Ob->Option X} {res:R->LV} {obs':R->List Ob} {dr:LV×List Ob->Option R}
 (hfn : P.funcs[g]? = some fn) (hc : fn.body = some (qeu fn)) (hname : ¬ fn.name = "runtime.NumGoroutine") (hdec : ∀ az os x, dec az os = some x → az = args x ∧ os = obs x) (hdr : ∀ o r, dr o = some r → o = (res r, obs' r)) (hns : dstC ps (qeu fn) = true) (hform : ∀ r, Nat.ble q (obs' r).length = true ∧ (obs' r).all okOb = true) :
 COKG P ⟨g,X,R,q,args,obs,dec,fun x=>qhn T C fn pl d ps q dr (args x) (obs x),res,obs'⟩:=by
 refine⟨hdec,fun x r hx w η vs hr hv=>?_,⟨fn,_,hfn,hc,hname⟩,hform⟩
 simp only at hx hr hv ⊢
 unfold qhn at hx
 rw[Bool.cond_eq_ite]at hx
 split at hx
 ·rename_i hps
  rw[Bool.cond_eq_ite]at hx
  split at hx
  case isFalse=>cases hx
  rename_i hpos
  have htm:∀ (n:Nat) v,vs[n]?=some v->(vs.toArray++Array.replicate (fn.ntmps-vs.toArray.size) undef)[n]?=some v:=fun n v e1=>by
   have hlt:=(List.getElem?_eq_some_iff.1 e1).1
   rw[Array.getElem?_append_left (by simpa using hlt)]
   simpa using e1
  refine calls_of_wp hfn hc ?_
  refine qh5 (V:=fun n v=>n∈ps/\vs[n]?=some v) (w0:=w) (φ0:=gFz (obs x) η) hm hT hC (fun n v h=>h.1) (qeu fn) hns hx (fun e s h'=>?_) _ w ⟨⟨η,hr,fun n l hl=>?_,⟨Nat.le_refl _,fun _ _ _=>rfl,fun k hk=>.inr hk,fun _ _ h=>h,fun _ _ h=>.inl h,rfl,rfl,rfl,Nat.le_refl _,fun _ _ h=>h.elim⟩⟩,?_,rfl⟩ (fun n v hn=>htm _ _ hn.2)
  ·obtain⟨o,h1,h2⟩:=Option.bind_eq_some_iff.1 h'
   have h3:=hdr o r h2
   subst h3
   have fin:finG T fn.results.toList ps (qhg ps (args x)) (obs x) q s=some (res r,obs' r)->∀ a2 w2,SS w (gFz (obs x) η) fn.ntmps s a2 w2->KT (fun n v=>n∈ps/\vs[n]?=some v) a2->_:=fun hfin a2 w2 hss hkt=>qhm hT hfin hr (qhj hv ps hps fun p hp v hpv=>hkt p v ⟨hp,hpv⟩) hss hpos
   cases e with
   | n=>exact fun a2 w2 hss hkt=>fin h1 a2 w2 hss hkt
   | r=>exact fun a2 w2 hss hkt=>fin h1 a2 w2 hss hkt
   | x i=>cases h1
  ·obtain⟨_,h2⟩:=qa9 _ 0 n l hl
   rw[Nat.sub_zero]at h2
   obtain⟨v,e1,e2⟩:=hv.get h2
   exact⟨v,htm n v e1,e2⟩
  ·simp;omega
 ·cases hx
end
mutual
def fiG:LV->List LV->LV×List LV
 | .agg cs,ls=>(.agg (fiGs cs ls).1,(fiGs cs ls).2)
 | .tup cs,ls=>(.tup (fiGs cs ls).1,(fiGs cs ls).2)
 | .fn f cs,ls=>(.fn f (fiGs cs ls).1,(fiGs cs ls).2)
 | .undef,l::ls=>(l,ls)
 | l,ls=>(l,ls)
def fiGs:List LV->List LV->List LV×List LV
 | [],ls=>([],ls)
 | c::cs,ls=>((fiG c ls).1::(fiGs cs (fiG c ls).2).1,(fiGs cs (fiG c ls).2).2)
end
mutual
def flG:LV->LV->Option (List LV)
 | .agg cs,.agg ds=>flGs cs ds
 | .tup cs,.tup ds=>flGs cs ds
 | .fn f cs,.fn g ds=>bif Nat.beq f g then flGs cs ds else none
 | .undef,l=>some [l]
 | .rs n,.rs m=>bif Nat.beq n m then some [] else none
 | .mp n,.mp m=>bif Nat.beq n m then some [] else none
 | .ptr n o,.ptr m p=>bif Nat.beq n m&&Nat.beq o p then some [] else none
 | .nilp,.nilp=>some []
 | .nils,.nils=>some []
 | _,_=>none
def flGs:List LV->List LV->Option (List LV)
 | [],[]=>some []
 | c::cs, d::ds => match flG c d with
  | some a => match flGs cs ds with
   | some b=>some (a++b)
   | none=>none
  | none=>none
 | _,_=>none
end
theorem qhp {α:Type} {c:Bool} {a:Option α} {x:α} (h:(bif c then a else none)=some x):c=true/\a=some x:=by
 cases c with
 | true=>exact⟨rfl,h⟩
 | false=>cases h
mutual
theorem qhq:∀ (sk l:LV) (ls rest:List LV),flG sk l=some ls->fiG sk (ls++rest)=(l,rest)
 | .agg cs, l, ls, rest, h => by
  cases l with
  | agg ds =>
   rw[flG]at h
   have:=fi_flGs cs ds ls rest h
   simp only[fiG,this]
  | _=>simp[flG]at h
 | .tup cs, l, ls, rest, h => by
  cases l with
  | tup ds =>
   rw[flG]at h
   have:=fi_flGs cs ds ls rest h
   simp only[fiG,this]
  | _=>simp[flG]at h
 | .fn f cs, l, ls, rest, h => by
  cases l with
  | fn g ds =>
   rw[flG]at h
   obtain⟨h1,h2⟩:=qhp h
   have e:=Nat.eq_of_beq_eq_true h1
   subst e
   have:=fi_flGs cs ds ls rest h2
   simp only[fiG,this]
  | _=>simp[flG]at h
 | .undef, l, ls, rest, h => by
  have h':some [l]=some ls:=by rw[← h];cases l<;>rfl
  injection h' with h'
  subst h'
  rfl
 | .rs n, l, ls, rest, h => by
  cases l with
  | rs m =>
   rw[flG]at h
   obtain⟨h1,h2⟩:=qhp h
   have e:=Nat.eq_of_beq_eq_true h1
   injection h2 with h2
   subst e h2
   rfl
  | _=>simp[flG]at h
 | .mp n, l, ls, rest, h => by
  cases l with
  | mp m =>
   rw[flG]at h
   obtain⟨h1,h2⟩:=qhp h
   have e:=Nat.eq_of_beq_eq_true h1
   injection h2 with h2
   subst e h2
   rfl
  | _=>simp[flG]at h
 | .ptr n o, l, ls, rest, h => by
  cases l with
  | ptr m p =>
   rw[flG]at h
   obtain⟨h1,h2⟩:=qhp h
   rw[Bool.and_eq_true]at h1
   have e1:=Nat.eq_of_beq_eq_true h1.1
   have e2:=Nat.eq_of_beq_eq_true h1.2
   injection h2 with h2
   subst e1 e2 h2
   rfl
  | _=>simp[flG]at h
 | .nilp, l, ls, rest, h => by
  cases l with
  | nilp=>rw[flG]at h;injection h with h;subst h;rfl
  | _=>simp[flG]at h
 | .nils, l, ls, rest, h => by
  cases l with
  | nils=>rw[flG]at h;injection h with h;subst h;rfl
  | _=>simp[flG]at h
 | .int _ _,l,ls,rest,h=>by cases l<;>simp[flG]at h
 | .bool _,l,ls,rest,h=>by cases l<;>simp[flG]at h
 | .str _,l,ls,rest,h=>by cases l<;>simp[flG]at h
 | .rp _ _ _ _,l,ls,rest,h=>by cases l<;>simp[flG]at h
 | .fz _ _,l,ls,rest,h=>by cases l<;>simp[flG]at h
 | .fp _ _ _,l,ls,rest,h=>by cases l<;>simp[flG]at h
theorem fi_flGs:∀ (cs ds ls rest:List LV),flGs cs ds=some ls->fiGs cs (ls++rest)=(ds,rest)
 | [],[],ls,rest,h=>by rw[flGs]at h;injection h with h;subst h;rfl
 | [],_::_,_,_,h=>by simp[flGs]at h
 | _::_,[],_,_,h=>by simp[flGs]at h
 | c::cs, d::ds, ls, rest, h => by
  rw[flGs]at h
  split at h
  ·rename_i a ha
   split at h
   ·rename_i b hb
    injection h with h
    subst h
    have h1:=qhq c d a (b++rest) ha
    have h2:=fi_flGs cs ds b rest hb
    simp only[fiGs,List.append_assoc,h1,h2]
   ·cases h
  ·cases h
end
def obL:Ob->LV
 | .cells cs=>.agg cs
 | .rows τ xs=>.fz τ xs
 | .imap (.int k) a τ es=>.fn (bif a then 1 else 0) [.fz (.int k τ) es]
 | _=>.undef
def obU:LV->Ob
 | .agg cs=>.cells cs
 | .fz τ xs=>.rows τ xs
 | .fn a [.fz (.int k τ) es]=>.imap (.int k) (Nat.beq a 1) τ es
 | _=>.cells []
def isOL:Ob->Bool
 | .cells _=>true
 | .rows _ _=>true
 | .imap (.int _) _ _ _=>true
 | _=>false
theorem qhr {ob:Ob} (h:isOL ob=true):obU (obL ob)=ob:=by
 cases ob with
 | cells=>rfl
 | rows=>rfl
 | imap k a τ es=>cases k with | int k=>cases a<;>rfl | agg=>cases h
 | _=>cases h
def pkG (o:LV×List Ob):LV:=.tup [o.1,.tup (o.2.map obL)]
def unG:LV->LV×List Ob
 | .tup [l,.tup cs]=>(l,cs.map obU)
 | _=>(.undef,[])
theorem qhs {o:LV×List Ob} (h:o.2.all isOL=true):unG (pkG o)=o:=by
 obtain⟨l,obs⟩:=o
 unfold pkG unG
 simp only[List.map_map]
 congr 1
 simp only at h
 induction obs with
 | nil=>rfl
 | cons ob obs ih =>
  rw[List.all_cons,Bool.and_eq_true]at h
  rw[List.map_cons,ih h.2]
  congr 1
  exact qhr h.1
def encG (sk:LV) (ls:List Rl) (x:qf6 ls):LV×List Ob:=unG (fiG sk (qf7 ls x 0).1).1
def decG (sk:LV) (ls:List Rl) (o:LV×List Ob):Option (qf6 ls) :=
 bif o.2.all isOL then (match flG sk (pkG o) with
  | some vs => (match qfa ls vs 0 [] with
   | some (x,[])=>some x
   | _=>none)
  | none=>none) else none
theorem qht {sk:LV} {ls:List Rl} {o:LV×List Ob} {x:qf6 ls} (h:decG sk ls o=some x):o=encG sk ls x:=by
 unfold decG at h
 obtain⟨h1,h2⟩:=qhp h
 split at h2
 ·rename_i vs hv
  split at h2
  ·rename_i y hd
   injection h2 with h2
   subst h2
   obtain⟨a1,_⟩:=qfb ls hd
   have h3:=qhq sk (pkG o) vs [] hv
   rw[List.append_nil,a1]at h3
   unfold encG
   rw[h3,qhs h1]
  ·cases h2
 ·cases h2
def qhu:LV->List LV
 | .tup cs=>cs
 | _=>[]
def gsp (g:FuncId) (q:Nat) (skX:LV) (lX:List Rl) (skR:LV) (lR:List Rl) (F:qf6 lX->Option (qf6 lR)):GSpec :=
 ⟨g,qf6 lX,qf6 lR,q,fun x=>qhu (encG skX lX x).1,fun x=>(encG skX lX x).2,fun az os=>decG skX lX (.tup az,os),F,fun r=>(encG skR lR r).1,fun r=>(encG skR lR r).2⟩
def qhv (T:Tys) (C:Orc) (fn:Func) (pl:Plan) (d:Nat) (ps:List Nat) (q:Nat) (skX:LV) (lX:List Rl) (skR:LV) (lR:List Rl) (x:qf6 lX):Option (qf6 lR) :=
 qhn T C fn pl d ps q (decG skR lR) (qhu (encG skX lX x).1) (encG skX lX x).2
theorem qhw {P:Program} {T:Tys} {C:Orc} (hm:P.follows .mixedOrders=true) (hT:TysOK P T) (hC:OrcOK P C) {fn:Func} {pl:Plan} {d:Nat} {g:FuncId} {ps:List Nat} {q:Nat} {skX:LV} {lX:List Rl} {skR:LV} {lR:List Rl}
 (hfn : P.funcs[g]? = some fn) (hc : fn.body = some (qeu fn)) (hname : ¬ fn.name = "runtime.NumGoroutine") (hns : dstC ps (qeu fn) = true) (hform : ∀ r : qf6 lR, Nat.ble q (encG skR lR r).2.length = true ∧ (encG skR lR r).2.all okOb = true) :
 COKG P (gsp g q skX lX skR lR (qhv T C fn pl d ps q skX lX skR lR)) :=
 qho hm hT hC hfn hc hname (fun az os x h=>by
  have:=qht h
  rw[← this]
  exact⟨rfl,rfl⟩) (fun o r h=>qht h) hns hform
structure GEnt where
 T:Tys
 C:Orc
 fn:Func
 pl:Plan
 d:Nat
 g:FuncId
 ps:List Nat
 q:Nat
 skX:LV
 lX:List Rl
 skR:LV
 lR:List Rl
def GEnt.F (E:GEnt):qf6 E.lX->Option (qf6 E.lR):=match E with
 | ⟨T,C,fn,pl,d,_,ps,q,skX,lX,skR,lR⟩=>qhv T C fn pl d ps q skX lX skR lR
def GEnt.s (E:GEnt):GSpec:=gsp E.g E.q E.skX E.lX E.skR E.lR E.F
def GEnt.b (E:GEnt):qf6 E.lX->Nat->List (St->Option (qf6 E.lR))->(St->Option (qf6 E.lR))->St->Option (qf6 E.lR):=match E with
 | ⟨T,C,fn,pl,d,_,ps,q,skX,lX,skR,lR⟩=>fun xx i sf self s=>qfh T C fn.ntmps pl d (qeu fn) i sf (fun e s=>(finE T fn.results.toList ps (qhu (encG skX lX xx).1) (encG skX lX xx).2 q e s).bind (decG skR lR)) self s
theorem GEnt.k {P : Program} {E : GEnt} (hm : P.follows .mixedOrders = true) (hT : TysOK P E.T) (hC : OrcOK P E.C) (hf : P.funcs[E.g]? = some E.fn ∧ E.fn.body = some (qeu E.fn) ∧ decide (E.fn.name = "runtime.NumGoroutine") = false)
 (hns:dstC E.ps (qeu E.fn)=true) (hform:∀ r:qf6 E.lR,Nat.ble E.q (encG E.skR E.lR r).2.length=true/\(encG E.skR E.lR r).2.all okOb=true):COKG P E.s:=by
 obtain⟨T,C,fn,pl,d,g,ps,q,skX,lX,skR,lR⟩:=E
 exact qhw hm hT hC hf.1 hf.2.1 (of_decide_eq_false hf.2.2) hns hform
end Go.Tx
namespace Go.Proofs.YtfjjdnaggblaaaaGreat
open Go Go.Tx Go.Proofs.Tryz
set_option maxRecDepth 100000
abbrev Ri:Go.Tx.Row:=(.int .i64 .nil)
abbrev Di:Type:=(Int×Unit)
abbrev zi:Di:=(0,())
abbrev Rb:Go.Tx.Row:=(.bool .nil)
abbrev Db:Type:=(Bool×Unit)
abbrev zb:Db:=(false,())
abbrev Ru:Go.Tx.Row:=(.int .u64 .nil)
abbrev Du:Type:=(Int×Unit)
abbrev Rii:Go.Tx.Row:=(.int .i64 (.int .i64 .nil))
abbrev Dii:Type:=(Int×(Int×Unit))
abbrev zii:Dii:=(0,0,())
abbrev Riii:Go.Tx.Row:=(.int .i64 (.int .i64 (.int .i64 .nil)))
abbrev Diii:Type:=(Int×(Int×(Int×Unit)))
abbrev ziii:Diii:=(0,0,0,())
abbrev qhx:Go.Tx.Row:=(.sl Riii .nil)
abbrev qhy:Type:=(List Diii×Unit)
abbrev qi0:Go.Tx.Row:=(.int .i64 (.int .i64 (.sl Riii .nil)))
abbrev qi1:Type:=(Int×(Int×(List Diii×Unit)))
abbrev qi3:Go.Tx.Row:=(.int .i64 (.int .i64 (.int .i64 (.int .i64 .nil))))
abbrev qi4:Type:=(Int×(Int×(Int×(Int×Unit))))
abbrev qi5:qi4:=(0,0,0,0,())
abbrev qi6:Go.Tx.Row:=(.sl qi3 .nil)
abbrev qi7:Type:=(List qi4×Unit)
abbrev qic:Go.Tx.Row:=(.int .u8 (.int .i64 (.int .i64 (.int .i64 (.int .i64 (.int .i64 (.int .i64 .nil)))))))
abbrev qid:Type:=(Int×(Int×(Int×(Int×(Int×(Int×(Int×Unit)))))))
abbrev RLiE:Go.Tx.Row:=(.sl Ri .nil)
abbrev DLiE:Type:=(List Di×Unit)
abbrev qif:Go.Tx.Row:=(.int .i64 (.sl Riii .nil))
abbrev qig:Type:=(Int×(List Diii×Unit))
abbrev RLbE:Go.Tx.Row:=(.sl Rb .nil)
abbrev DLbE:Type:=(List Db×Unit)
abbrev qii:Go.Tx.Row:=(.sl Ri (.sl Rb (.sl Ri .nil)))
abbrev qij:Type:=(List Di×(List Db×(List Di×Unit)))
abbrev qil:Go.Tx.Row:=(.int .i64 (.int .i64 (.int .i64 (.int .i64 (.int .i64 .nil)))))
abbrev qim:Type:=(Int×(Int×(Int×(Int×(Int×Unit)))))
abbrev qin:qim:=(0,0,0,0,0,())
abbrev qio:Go.Tx.Row:=(.sl qil .nil)
abbrev qip:Type:=(List qim×Unit)
abbrev qir:Go.Tx.Row:=(.sl Ri (.sl Rb (.sl Ri (.sl qil (.sl Ri .nil)))))
abbrev qis:Type:=(List Di×(List Db×(List Di×(List qim×(List Di×Unit)))))
abbrev qiu:Go.Tx.Row:=(.int .i64 (.int .i64 (.sl Riii (.int .i64 (.sl Riii (.sl Ri (.sl Rb (.sl Ri (.sl qil (.sl Ri (.sl Riii .nil)))))))))))
abbrev qiv:Type:=(Int×(Int×(List Diii×(Int×(List Diii×(List Di×(List Db×(List Di×(List qim×(List Di×(List Diii×Unit)))))))))))
abbrev Rbuu:Go.Tx.Row:=(.bool (.int .u64 (.int .u64 .nil)))
abbrev Dbuu:Type:=(Bool×(Int×(Int×Unit)))
abbrev qix:Go.Tx.Row:=(.sl Ri (.sl Ri .nil))
abbrev qiy:Type:=(List Di×(List Di×Unit))
abbrev qj0:Go.Tx.Row:=(.sl Rii .nil)
abbrev qj1:Type:=(List Dii×Unit)
theorem mixed:prog.follows .mixedOrders=true:=by kernel_rfl
def tysT:Tys:=[(2,⟨.int .i64,1,false,[.int .i64 0],false,false⟩),
 (3,⟨.int .i64,1,false,[.int .i64 0],false,false⟩),
 (4,⟨.bool,1,false,[.bool false],false,false⟩),
 (5,⟨.int .u8,1,false,[.int .u8 0],false,false⟩),
 (6,⟨.int .u8,1,false,[.int .u8 0],false,false⟩),
 (9,⟨.str,1,false,[.undef],false,false⟩),
 (10,⟨.str,1,false,[.undef],false,false⟩),
 (11,⟨.str,1,false,[.undef],false,false⟩),
 (12,⟨.int .u64,1,false,[.int .u64 0],false,false⟩),
 (21,⟨.int .i32,1,false,[.int .i32 0],false,false⟩),
 (23,⟨.struct [(0,2),(1,2)],2,true,[.int .i64 0,.int .i64 0],true,false⟩),
 (24,⟨.slice 39 Riii,1,false,[.nils],false,false⟩),
 (26,⟨.struct [(0,24)],1,true,[.nils],false,false⟩),
 (28,⟨.struct [(0,23),(2,26)],3,true,[.int .i64 0,.int .i64 0,.nils],false,false⟩),
 (32,⟨.int .i64,1,false,[.int .i64 0],false,false⟩),
 (33,⟨.slice 276 qi3,1,false,[.nils],false,false⟩),
 (35,⟨.struct [(0,32),(1,3),(2,3),(3,23),(5,33)],6,true,[.int .i64 0,.int .i64 0,.int .i64 0,.int .i64 0,.int .i64 0,.nils],false,false⟩),
 (39,⟨.struct [(0,3),(1,2),(2,2)],3,true,[.int .i64 0,.int .i64 0,.int .i64 0],false,false⟩),
 (41,⟨.struct [(0,5),(1,39),(4,3),(5,23)],7,true,[.int .u8 0,.int .i64 0,.int .i64 0,.int .i64 0,.int .i64 0,.int .i64 0,.int .i64 0],true,false⟩),
 (44,⟨.slice 3 Ri,1,false,[.nils],false,false⟩),
 (47,⟨.slice 110 Riii,1,false,[.nils],false,false⟩),
 (49,⟨.struct [(0,3),(1,47)],2,true,[.int .i64 0,.nils],false,false⟩),
 (50,⟨.slice 4 Rb,1,false,[.nils],false,false⟩),
 (52,⟨.struct [(0,44),(1,50),(2,44)],3,true,[.nils,.nils,.nils],false,false⟩),
 (53,⟨.slice 74 qil,1,false,[.nils],false,false⟩),
 (55,⟨.struct [(0,52),(3,53),(4,44)],5,true,[.nils,.nils,.nils,.nils,.nils],false,false⟩),
 (56,⟨.slice 105 Riii,1,false,[.nils],false,false⟩),
 (58,⟨.struct [(0,23),(2,26),(3,49),(5,55),(10,56)],11,true,[.int .i64 0,.int .i64 0,.nils,.int .i64 0,.nils,.nils,.nils,.nils,.nils,.nils,.nils],false,false⟩),
 (64,⟨.struct [(0,3),(1,3)],2,true,[.int .i64 0,.int .i64 0],true,false⟩),
 (72,⟨.struct [(0,3),(1,3)],2,true,[.int .i64 0,.int .i64 0],true,false⟩),
 (74,⟨.struct [(0,23),(2,3),(3,72)],5,true,[.int .i64 0,.int .i64 0,.int .i64 0,.int .i64 0,.int .i64 0],true,false⟩),
 (80,⟨.int .u64,1,false,[.int .u64 0],false,false⟩),
 (82,⟨.struct [(0,4),(1,80),(2,80)],3,true,[.bool false,.int .u64 0,.int .u64 0],false,false⟩),
 (105,⟨.struct [(0,3),(1,72)],3,true,[.int .i64 0,.int .i64 0,.int .i64 0],false,false⟩),
 (110,⟨.struct [(0,3),(1,64)],3,true,[.int .i64 0,.int .i64 0,.int .i64 0],false,false⟩),
 (127,⟨.struct [(0,44),(1,44)],2,true,[.nils,.nils],false,false⟩),
 (131,⟨.slice 139 Riii,1,false,[.nils],false,false⟩),
 (133,⟨.struct [(0,3),(1,131)],2,true,[.int .i64 0,.nils],false,false⟩),
 (139,⟨.struct [(0,3),(1,3),(2,3)],3,true,[.int .i64 0,.int .i64 0,.int .i64 0],false,false⟩),
 (163,⟨.other,1,false,[.undef],false,false⟩),
 (170,⟨.slice 32 Ri,1,false,[.nils],false,false⟩),
 (171,⟨.other,1,false,[.undef],false,false⟩),
 (173,⟨.other,1,false,[.undef],false,false⟩),
 (178,⟨.other,1,false,[.undef],false,false⟩),
 (186,⟨.other,1,false,[.undef],false,false⟩),
 (201,⟨.slice 64 Rii,1,false,[.nils],false,false⟩),
 (202,⟨.map 3 (.int .i64) 39 true Riii,1,false,[.undef],false,false⟩),
 (223,⟨.struct [(0,4),(1,80),(2,80)],3,true,[.bool false,.int .u64 0,.int .u64 0],false,false⟩),
 (229,⟨.struct [(0,2),(1,80)],2,true,[.int .i64 0,.int .u64 0],false,false⟩),
 (231,⟨.array 2 2,2,true,[.int .i64 0,.int .i64 0],false,false⟩),
 (232,⟨.array 2 231,4,true,[.int .i64 0,.int .i64 0,.int .i64 0,.int .i64 0],false,false⟩),
 (236,⟨.slice 23 Rii,1,false,[.nils],false,false⟩),
 (240,⟨.int .u64,1,false,[.int .u64 0],false,false⟩),
 (246,⟨.map 64 (.agg 2) 4 false Rb,1,false,[.undef],false,false⟩),
 (247,⟨.map 3 (.int .i64) 4 false Rb,1,false,[.undef],false,false⟩),
 (250,⟨.other,1,false,[.undef],false,false⟩),
 (253,⟨.slice 3 Ri,1,false,[.nils],false,false⟩),
 (273,⟨.other,1,false,[.undef],false,false⟩),
 (276,⟨.struct [(0,23),(2,3),(3,3)],4,true,[.int .i64 0,.int .i64 0,.int .i64 0,.int .i64 0],false,false⟩),
 (278,⟨.other,1,false,[.undef],false,false⟩),
 (280,⟨.other,1,false,[.undef],false,false⟩),
 (285,⟨.int .i64,1,false,[.int .i64 0],false,false⟩),
 (292,⟨.int .u32,1,false,[.int .u32 0],false,false⟩),
 (303,⟨.other,1,false,[.undef],false,false⟩),
 (309,⟨.other,1,false,[.undef],false,false⟩),
 (315,⟨.int .u64,1,false,[.int .u64 0],false,false⟩),
 (324,⟨.other,1,false,[.undef],false,false⟩),
 (333,⟨.other,1,false,[.nilp],false,false⟩),
 (348,⟨.int .u8,1,false,[.int .u8 0],false,false⟩),
 (349,⟨.int .u8,1,false,[.int .u8 0],false,false⟩),
 (352,⟨.int .i32,1,false,[.int .i32 0],false,false⟩),
 (353,⟨.int .i32,1,false,[.int .i32 0],false,false⟩)]
set_option maxRecDepth 20000 in
set_option maxHeartbeats 4000000 in
theorem qj3 (n:Nat) (k0 k1:IntKind) (a0 a1 b0 b1:Int) (w:World):(Op.equalIn (n+2) 23 (.agg #[.int k0 a0,.int k1 a1]) (.agg #[.int k0 b0,.int k1 b1])).run prog w=.ok ((a0==b0)&&(a1==b1)) w:=by
 have hst:prog.stoodInHeld 23=false:=by kernel_rfl
 have hu:prog.underlying 23=some (.struct (prog.fieldsOf 23)):=by kernel_rfl
 have hf:=Tryz.underlying23
 rw[hu]at hf
 injection hf with hf
 injection hf with hf
 have e2:=fun (k:IntKind) (x y:Int)=>run_equalIn_int (P:=prog) w (n+0) 2 k .i64 x y Tryz.underlying2
 rw[run_equalIn_struct w (n+1) 23 _ _ hu hst,hf]
 simp[Op.eqFields,part,Sem.run_bind,Result.andThen_ok,e2,Tryz.isAgg2]
 cases h0:(a0==b0)<;>cases h1:(a1==b1)<;>simp_all
theorem qj4:EqT prog 23 2:=by
 refine⟨fun vs us b w h1 h2 h=>?_,by kernel_rfl⟩
 obtain⟨a0,a1,rfl⟩:∃ a0 a1,vs=[a0,a1]:=by
  match vs,h1 with
  | [a0,a1],_=>exact⟨a0,a1,rfl⟩
 obtain⟨b0,b1,rfl⟩:∃ b0 b1,us=[b0,b1]:=by
  match us,h2 with
  | [b0,b1],_=>exact⟨b0,b1,rfl⟩
 obtain⟨k0,x0,y0,c0,rfl,rfl,g0,rfl⟩:=q1s h
 obtain⟨k1,x1,y1,c1,rfl,rfl,g1,rfl⟩:=q1s g0
 obtain rfl:=q1r g1
 refine (qj3 9998 k0 k1 x0 x1 y0 y1 w).trans ?_
 simp[Bool.and_assoc]
set_option maxRecDepth 20000 in
set_option maxHeartbeats 4000000 in
theorem qj5 (n:Nat) (k0 k1 k2:IntKind) (a0 a1 a2 b0 b1 b2:Int) (w:World):(Op.equalIn (n+2) 39 (.agg #[.int k0 a0,.int k1 a1,.int k2 a2]) (.agg #[.int k0 b0,.int k1 b1,.int k2 b2])).run prog w=.ok ((a0==b0)&&(a1==b1)&&(a2==b2)) w:=by
 have hst:prog.stoodInHeld 39=false:=by kernel_rfl
 have hu:prog.underlying 39=some (.struct (prog.fieldsOf 39)):=by kernel_rfl
 have hf:=Tryz.underlying39
 rw[hu]at hf
 injection hf with hf
 injection hf with hf
 have e2:=fun (k:IntKind) (x y:Int)=>run_equalIn_int (P:=prog) w (n+0) 2 k .i64 x y Tryz.underlying2
 have e3:=fun (k:IntKind) (x y:Int)=>run_equalIn_int (P:=prog) w (n+0) 3 k .i64 x y Tryz.underlying3
 rw[run_equalIn_struct w (n+1) 39 _ _ hu hst,hf]
 simp[Op.eqFields,part,Sem.run_bind,Result.andThen_ok,e2,Tryz.isAgg2,e3,Tryz.isAgg3]
 cases h0:(a0==b0)<;>cases h1:(a1==b1)<;>cases h2:(a2==b2)<;>simp_all
set_option maxRecDepth 20000 in
set_option maxHeartbeats 4000000 in
theorem qj6 (n:Nat) (k0 k1 k2 k3 k4 k5 k6:IntKind) (a0 a1 a2 a3 a4 a5 a6 b0 b1 b2 b3 b4 b5 b6:Int) (w:World):(Op.equalIn (n+3) 41 (.agg #[.int k0 a0,.int k1 a1,.int k2 a2,.int k3 a3,.int k4 a4,.int k5 a5,.int k6 a6]) (.agg #[.int k0 b0,.int k1 b1,.int k2 b2,.int k3 b3,.int k4 b4,.int k5 b5,.int k6 b6])).run prog w=.ok ((a0==b0)&&(a1==b1)&&(a2==b2)&&(a3==b3)&&(a4==b4)&&(a5==b5)&&(a6==b6)) w:=by
 have hst:prog.stoodInHeld 41=false:=by kernel_rfl
 have hu:prog.underlying 41=some (.struct (prog.fieldsOf 41)):=by kernel_rfl
 have hf:=Tryz.underlying41
 rw[hu]at hf
 injection hf with hf
 injection hf with hf
 have e3:=fun (k:IntKind) (x y:Int)=>run_equalIn_int (P:=prog) w (n+1) 3 k .i64 x y Tryz.underlying3
 have e5:=fun (k:IntKind) (x y:Int)=>run_equalIn_int (P:=prog) w (n+1) 5 k .u8 x y Tryz.underlying5
 have e23:=fun (k0 k1:IntKind) (x0 x1 y0 y1:Int)=>qj3 (n+0) k0 k1 x0 x1 y0 y1 w
 have e39:=fun (k0 k1 k2:IntKind) (x0 x1 x2 y0 y1 y2:Int)=>qj5 (n+0) k0 k1 k2 x0 x1 x2 y0 y1 y2 w
 rw[run_equalIn_struct w (n+2) 41 _ _ hu hst,hf]
 simp[Op.eqFields,part,Sem.run_bind,Result.andThen_ok,e3,Tryz.isAgg3,e5,Tryz.isAgg5,e23,Tryz.isAgg23,Tryz.sizeOf23,e39,Tryz.isAgg39,Tryz.sizeOf39]
 cases h0:(a0==b0)<;>cases h1:(a1==b1)<;>cases h2:(a2==b2)<;>cases h3:(a3==b3)<;>cases h4:(a4==b4)<;>cases h5:(a5==b5)<;>cases h6:(a6==b6)<;>simp_all
theorem qj7:EqT prog 41 7:=by
 refine⟨fun vs us b w h1 h2 h=>?_,by kernel_rfl⟩
 obtain⟨a0,a1,a2,a3,a4,a5,a6,rfl⟩:∃ a0 a1 a2 a3 a4 a5 a6,vs=[a0,a1,a2,a3,a4,a5,a6]:=by
  match vs,h1 with
  | [a0,a1,a2,a3,a4,a5,a6],_=>exact⟨a0,a1,a2,a3,a4,a5,a6,rfl⟩
 obtain⟨b0,b1,b2,b3,b4,b5,b6,rfl⟩:∃ b0 b1 b2 b3 b4 b5 b6,us=[b0,b1,b2,b3,b4,b5,b6]:=by
  match us,h2 with
  | [b0,b1,b2,b3,b4,b5,b6],_=>exact⟨b0,b1,b2,b3,b4,b5,b6,rfl⟩
 obtain⟨k0,x0,y0,c0,rfl,rfl,g0,rfl⟩:=q1s h
 obtain⟨k1,x1,y1,c1,rfl,rfl,g1,rfl⟩:=q1s g0
 obtain⟨k2,x2,y2,c2,rfl,rfl,g2,rfl⟩:=q1s g1
 obtain⟨k3,x3,y3,c3,rfl,rfl,g3,rfl⟩:=q1s g2
 obtain⟨k4,x4,y4,c4,rfl,rfl,g4,rfl⟩:=q1s g3
 obtain⟨k5,x5,y5,c5,rfl,rfl,g5,rfl⟩:=q1s g4
 obtain⟨k6,x6,y6,c6,rfl,rfl,g6,rfl⟩:=q1s g5
 obtain rfl:=q1r g6
 refine (qj6 9997 k0 k1 k2 k3 k4 k5 k6 x0 x1 x2 x3 x4 x5 x6 y0 y1 y2 y3 y4 y5 y6 w).trans ?_
 simp[Bool.and_assoc]
set_option maxRecDepth 20000 in
set_option maxHeartbeats 4000000 in
theorem qj8 (n:Nat) (k0 k1:IntKind) (a0 a1 b0 b1:Int) (w:World):(Op.equalIn (n+2) 64 (.agg #[.int k0 a0,.int k1 a1]) (.agg #[.int k0 b0,.int k1 b1])).run prog w=.ok ((a0==b0)&&(a1==b1)) w:=by
 have hst:prog.stoodInHeld 64=false:=by kernel_rfl
 have hu:prog.underlying 64=some (.struct (prog.fieldsOf 64)):=by kernel_rfl
 have hf:=Tryz.underlying64
 rw[hu]at hf
 injection hf with hf
 injection hf with hf
 have e3:=fun (k:IntKind) (x y:Int)=>run_equalIn_int (P:=prog) w (n+0) 3 k .i64 x y Tryz.underlying3
 rw[run_equalIn_struct w (n+1) 64 _ _ hu hst,hf]
 simp[Op.eqFields,part,Sem.run_bind,Result.andThen_ok,e3,Tryz.isAgg3]
 cases h0:(a0==b0)<;>cases h1:(a1==b1)<;>simp_all
theorem qj9:EqT prog 64 2:=by
 refine⟨fun vs us b w h1 h2 h=>?_,by kernel_rfl⟩
 obtain⟨a0,a1,rfl⟩:∃ a0 a1,vs=[a0,a1]:=by
  match vs,h1 with
  | [a0,a1],_=>exact⟨a0,a1,rfl⟩
 obtain⟨b0,b1,rfl⟩:∃ b0 b1,us=[b0,b1]:=by
  match us,h2 with
  | [b0,b1],_=>exact⟨b0,b1,rfl⟩
 obtain⟨k0,x0,y0,c0,rfl,rfl,g0,rfl⟩:=q1s h
 obtain⟨k1,x1,y1,c1,rfl,rfl,g1,rfl⟩:=q1s g0
 obtain rfl:=q1r g1
 refine (qj8 9998 k0 k1 x0 x1 y0 y1 w).trans ?_
 simp[Bool.and_assoc]
set_option maxRecDepth 20000 in
set_option maxHeartbeats 4000000 in
theorem qja (n:Nat) (k0 k1:IntKind) (a0 a1 b0 b1:Int) (w:World):(Op.equalIn (n+2) 72 (.agg #[.int k0 a0,.int k1 a1]) (.agg #[.int k0 b0,.int k1 b1])).run prog w=.ok ((a0==b0)&&(a1==b1)) w:=by
 have hst:prog.stoodInHeld 72=false:=by kernel_rfl
 have hu:prog.underlying 72=some (.struct (prog.fieldsOf 72)):=by kernel_rfl
 have hf:=Tryz.underlying72
 rw[hu]at hf
 injection hf with hf
 injection hf with hf
 have e3:=fun (k:IntKind) (x y:Int)=>run_equalIn_int (P:=prog) w (n+0) 3 k .i64 x y Tryz.underlying3
 rw[run_equalIn_struct w (n+1) 72 _ _ hu hst,hf]
 simp[Op.eqFields,part,Sem.run_bind,Result.andThen_ok,e3,Tryz.isAgg3]
 cases h0:(a0==b0)<;>cases h1:(a1==b1)<;>simp_all
theorem qjb:EqT prog 72 2:=by
 refine⟨fun vs us b w h1 h2 h=>?_,by kernel_rfl⟩
 obtain⟨a0,a1,rfl⟩:∃ a0 a1,vs=[a0,a1]:=by
  match vs,h1 with
  | [a0,a1],_=>exact⟨a0,a1,rfl⟩
 obtain⟨b0,b1,rfl⟩:∃ b0 b1,us=[b0,b1]:=by
  match us,h2 with
  | [b0,b1],_=>exact⟨b0,b1,rfl⟩
 obtain⟨k0,x0,y0,c0,rfl,rfl,g0,rfl⟩:=q1s h
 obtain⟨k1,x1,y1,c1,rfl,rfl,g1,rfl⟩:=q1s g0
 obtain rfl:=q1r g1
 refine (qja 9998 k0 k1 x0 x1 y0 y1 w).trans ?_
 simp[Bool.and_assoc]
set_option maxRecDepth 20000 in
set_option maxHeartbeats 4000000 in
theorem qjc (n:Nat) (k0 k1 k2 k3 k4:IntKind) (a0 a1 a2 a3 a4 b0 b1 b2 b3 b4:Int) (w:World):(Op.equalIn (n+3) 74 (.agg #[.int k0 a0,.int k1 a1,.int k2 a2,.int k3 a3,.int k4 a4]) (.agg #[.int k0 b0,.int k1 b1,.int k2 b2,.int k3 b3,.int k4 b4])).run prog w=.ok ((a0==b0)&&(a1==b1)&&(a2==b2)&&(a3==b3)&&(a4==b4)) w:=by
 have hst:prog.stoodInHeld 74=false:=by kernel_rfl
 have hu:prog.underlying 74=some (.struct (prog.fieldsOf 74)):=by kernel_rfl
 have hf:=Tryz.underlying74
 rw[hu]at hf
 injection hf with hf
 injection hf with hf
 have e3:=fun (k:IntKind) (x y:Int)=>run_equalIn_int (P:=prog) w (n+1) 3 k .i64 x y Tryz.underlying3
 have e23:=fun (k0 k1:IntKind) (x0 x1 y0 y1:Int)=>qj3 (n+0) k0 k1 x0 x1 y0 y1 w
 have e72:=fun (k0 k1:IntKind) (x0 x1 y0 y1:Int)=>qja (n+0) k0 k1 x0 x1 y0 y1 w
 rw[run_equalIn_struct w (n+2) 74 _ _ hu hst,hf]
 simp[Op.eqFields,part,Sem.run_bind,Result.andThen_ok,e3,Tryz.isAgg3,e23,Tryz.isAgg23,Tryz.sizeOf23,e72,Tryz.isAgg72,Tryz.sizeOf72]
 cases h0:(a0==b0)<;>cases h1:(a1==b1)<;>cases h2:(a2==b2)<;>cases h3:(a3==b3)<;>cases h4:(a4==b4)<;>simp_all
theorem qjd:EqT prog 74 5:=by
 refine⟨fun vs us b w h1 h2 h=>?_,by kernel_rfl⟩
 obtain⟨a0,a1,a2,a3,a4,rfl⟩:∃ a0 a1 a2 a3 a4,vs=[a0,a1,a2,a3,a4]:=by
  match vs,h1 with
  | [a0,a1,a2,a3,a4],_=>exact⟨a0,a1,a2,a3,a4,rfl⟩
 obtain⟨b0,b1,b2,b3,b4,rfl⟩:∃ b0 b1 b2 b3 b4,us=[b0,b1,b2,b3,b4]:=by
  match us,h2 with
  | [b0,b1,b2,b3,b4],_=>exact⟨b0,b1,b2,b3,b4,rfl⟩
 obtain⟨k0,x0,y0,c0,rfl,rfl,g0,rfl⟩:=q1s h
 obtain⟨k1,x1,y1,c1,rfl,rfl,g1,rfl⟩:=q1s g0
 obtain⟨k2,x2,y2,c2,rfl,rfl,g2,rfl⟩:=q1s g1
 obtain⟨k3,x3,y3,c3,rfl,rfl,g3,rfl⟩:=q1s g2
 obtain⟨k4,x4,y4,c4,rfl,rfl,g4,rfl⟩:=q1s g3
 obtain rfl:=q1r g4
 refine (qjc 9997 k0 k1 k2 k3 k4 x0 x1 x2 x3 x4 y0 y1 y2 y3 y4 w).trans ?_
 simp[Bool.and_assoc]
theorem qje (em:Bool) (n:Nat) (a0 a1:Int) (w:World):(Instr.checkKey em (n+2) 64 (.agg #[.int .i64 a0,.int .i64 a1])).run prog w=.ok () w:=by
 have hu:prog.underlying 64=some (.struct (prog.fieldsOf 64)):=by kernel_rfl
 have hf:=Tryz.underlying64
 rw[hu]at hf
 injection hf with hf
 injection hf with hf
 have e3:=fun (x:Int)=>MapKept.run_checkKey (w:=w) (k:=.int .i64 x) Tryz.underlying3 (show MapKept.IsKey (.int .i64) (.int .i64 x) from rfl) em n
 rw[Instr.checkKey]
 simp only[Sem.run_bind,run_underlying hu,Result.andThen_ok,hf]
 simp[part,Sem.run_bind,Result.andThen_ok,e3,Tryz.isAgg3]
theorem qjf:KeyT prog 64 (.agg 2):=q5d (by kernel_rfl) qj9 fun em xs w hx=>by
 obtain⟨a0,a1,rfl⟩:∃ a0 a1,xs=[a0,a1]:=by
  match xs,hx with
  | [a0,a1],_=>exact⟨_,_,rfl⟩
 exact qje em 9998 a0 a1 w
theorem tys:TysOK prog tysT:=q1z (by kernel_rfl) (by
 intro p hp he
 simp only[tysT,List.mem_cons,List.not_mem_nil,or_false]at hp
 rcases hp with rfl | rfl | rfl | rfl | rfl | rfl | rfl | rfl | rfl | rfl | rfl | rfl | rfl | rfl | rfl | rfl | rfl | rfl | rfl | rfl | rfl | rfl | rfl | rfl | rfl | rfl | rfl | rfl | rfl | rfl | rfl | rfl | rfl | rfl | rfl | rfl | rfl | rfl | rfl | rfl | rfl | rfl | rfl | rfl | rfl | rfl | rfl | rfl | rfl | rfl | rfl | rfl | rfl | rfl | rfl | rfl | rfl | rfl | rfl | rfl | rfl | rfl | rfl | rfl | rfl | rfl | rfl | rfl | rfl | rfl | rfl | rfl
 all_goals first | exact qj4 | exact qj7 | exact qj9 | exact qjb | exact qjd | (cases he;done)) (by
 intro p hp ke kk ee agg τ he
 simp only[tysT,List.mem_cons,List.not_mem_nil,or_false]at hp
 rcases hp with rfl | rfl | rfl | rfl | rfl | rfl | rfl | rfl | rfl | rfl | rfl | rfl | rfl | rfl | rfl | rfl | rfl | rfl | rfl | rfl | rfl | rfl | rfl | rfl | rfl | rfl | rfl | rfl | rfl | rfl | rfl | rfl | rfl | rfl | rfl | rfl | rfl | rfl | rfl | rfl | rfl | rfl | rfl | rfl | rfl | rfl | rfl | rfl | rfl | rfl | rfl | rfl | rfl | rfl | rfl | rfl | rfl | rfl | rfl | rfl | rfl | rfl | rfl | rfl | rfl | rfl | rfl | rfl | rfl | rfl | rfl | rfl
 all_goals first | (cases he;done) | (cases he;exact qjf) | (cases he;exact q5b (by kernel_rfl)))
end Go.Proofs.YtfjjdnaggblaaaaGreat
namespace Go.Tx
open Go
section
variable {P:Program} {T:Tys} {C:Orc} {w0:World} {φ0:Fz0} {N:Nat} {Q:Exit->Act->World->Prop}
theorem qjg (hm:P.follows .mixedOrders=true) (hT:TysOK P T) (hC:OrcOK P C) {rid:Nat} {ops:Array Oper} {draw:Bool} {keep:List (Nat×Kd)} {s s2:St} (hreg:treg T C N ops draw keep s some=some s2) (hk:Cn w0 φ0 N s2 Q .normal):Run P w0 φ0 N (.region rid ops draw) s Q:=by
 obtain⟨s',h3,h4⟩:=q9i (D:=φ0.D) hm hT hC hreg
 injection h3 with h3;subst h3
 exact fun a w hs=>h4 w0 φ0 rid a w Q rfl hs hk
theorem qjh {a:Act} {o:Oper} {d n:Nat} {v u:Value} (hd:o.dst=some d) (hne:n≠d) (h:a.tmps[n]?=some u):(a.put o.dst v).tmps[n]?=some u:=by
 rw[hd]
 show (a.tmps.setIfInBounds d v)[n]?=some u
 rw[Array.getElem?_setIfInBounds_ne (Ne.symm hne)];exact h
theorem qji {a:Act} {o:Oper} {d:Nat} {v:Value} (hd:o.dst=some d) (hlt:d<a.tmps.size):(a.put o.dst v).tmps[d]?=some v:=by
 rw[hd]
 show (a.tmps.setIfInBounds d v)[d]?=some v
 rw[Array.getElem?_setIfInBounds_self_of_lt hlt]
theorem qjj {a:Act} {d:Option Tmp} {v:Value}:(a.put d v).tmps.size=a.tmps.size:=by
 cases d with
 | none=>rfl
 | some d=>exact Array.size_setIfInBounds ..
theorem qjk {a:Act} {d:Option Tmp} {v:Value}:(a.put d v).defers=a.defers:=by
 cases d<;>rfl
theorem qjl {α:Type} {c:Bool} {a:α} (h:c=true):(bif c then some a else none)=some a:=by rw[h];rfl
theorem qjm {rid:Nat} {ops:Array Oper} {o1 o2:Oper} {src t1 t2:Nat} {ty e yt:TypeId} {τ:Row} {xs:List (den τ)} (hops:ops.toList=[o1,o2]) (g1:o1.guard=none) (p1:o1.op=.move (.tmp src)) (d1:o1.dst=some t1) (g2:o2.guard=none)
 (p2:o2.op=.binOp .eql ty (.tmp t1) (.const (.slice none 0 0)) yt) (d2:o2.dst=some t2) (hn:(Nat.beq src t1 || Nat.beq src t2 || Nat.beq t1 t2)=false) (ht:(Nat.blt t1 N&&Nat.blt t2 N)=true) (hu:P.underlying ty=some (.slice e))
 (hk:∀ b,(b=true->xs=[])->Cn w0 φ0 N ⟨[(src,.fz τ xs),(t2,.bool b)],[]⟩ Q .normal):Run P w0 φ0 N (.region rid ops false) ⟨[(src,.fz τ xs)],[]⟩ Q:=by
 simp only[Bool.or_eq_false_iff]at hn
 have n1:=Nat.ne_of_beq_eq_false hn.1.1
 have n2:=Nat.ne_of_beq_eq_false hn.1.2
 simp only[Bool.and_eq_true,Nat.blt_eq]at ht
 intro a w hs
 obtain⟨⟨η,h1,h2,h3⟩,h4,h5⟩:=hs
 obtain⟨v,e1,e2⟩:=h2 src _ (List.mem_cons_self ..)
 have hv0:=e2
 cases e2 with
 | fz hf =>
  obtain⟨A,c,rfl,hc,hA,_⟩:=hf
  have ea:a.eval (.tmp src)=.slice A xs.length c:=by
   show a.tmps.getD src undef=_
   rw[Array.getD_eq_getD_getElem?,e1];rfl
  refine wp_region_list ?_
  rw[hops]
  refine wpList_plain g1 fun K1 hK1=>?_
  unfold Oper.wp execOp
  simp only[p1,ea,Sem.run_pure,Oper.upon]
  refine hK1 _ _ (wpList_plain g2 fun K2 hK2=>?_)
  generalize hb:a.put o1.dst (.slice A xs.length c)=a1
  have eb:a1.eval (.tmp t1)=.slice A xs.length c:=by
   show a1.tmps.getD t1 undef=_
   rw[Array.getD_eq_getD_getElem?,← hb,qji d1 (by omega)];rfl
  have ec:a1.eval (.const (.slice none 0 0))=.slice none 0 0:=rfl
  have hq:(eqGuard .eql ty (.tmp t1) (.const (.slice none 0 0)) (.slice A xs.length c) (.slice none 0 0)).run P w=.ok () w:=by simp[eqGuard]
  have hr:=Lib.run_eql_slice_nil (P:=P) w ty e A xs.length c 0 0 hu
  unfold Oper.wp execOp
  simp only[p2,eb,ec,Sem.run_bind,hq,Result.andThen_ok,hr,Sem.run_pure,Oper.upon]
  refine hK2 _ _ (hk A.isNone (fun hAn=>?_) _ w ⟨⟨η,h1,fun n l hl=>?_,h3⟩,by rw[qjj,← hb,qjj];exact h4,by rw[qjk,← hb,qjk];exact h5⟩)
  ·cases A with
   | none=>have:=hA rfl;exact List.eq_nil_of_length_eq_zero (by omega)
   | some x=>cases hAn
  ·rcases List.mem_cons.1 hl with hl | hl
   ·injection hl with e3 e4
    rw[e3,e4]
    exact⟨_,qjh d2 n2 (by rw[← hb];exact qjh d1 n1 e1),hv0⟩
   ·rcases List.mem_cons.1 hl with hl | hl
    ·injection hl with e3 e4
     rw[e3,e4]
     exact⟨_,qji d2 (by rw[← hb,qjj];omega),.bool _⟩
    ·cases hl
end
end Go.Tx
namespace Go.Pel
def qjn (n d:Int):Bool:=decide (1<=d/\n ≠ -9223372036854775808/\Nat.gcd d.toNat n.natAbs=1)
def qjo (n d:Int):Int:=if qjn n d then 0 else 8
theorem qjp {n d:Int} (h:d<1):qjo n d=8:=by unfold qjo qjn;rw[if_neg];simp;omega
theorem qjq {d:Int}:qjo (-9223372036854775808) d=8:=by unfold qjo qjn;rw[if_neg];simp
theorem qjr {n d:Int} (h1:1<=d) (h2:n ≠ -9223372036854775808) (h3:Nat.gcd d.toNat n.natAbs=1):qjo n d=0:=by unfold qjo qjn;rw[if_pos];simp;exact⟨h1,h2,h3⟩
theorem qjs {n d:Int} (h3:Nat.gcd d.toNat n.natAbs≠1):qjo n d=8:=by unfold qjo qjn;rw[if_neg];simp;intro _ _;exact h3
theorem qjt {n d:Int} (h:1<=d) (k:¬ 1<Nat.gcd d.toNat n.natAbs):Nat.gcd d.toNat n.natAbs=1:=by
 have:0<Nat.gcd d.toNat n.natAbs:=Nat.gcd_pos_of_pos_left _ (by omega)
 omega
theorem qju (n d:Int):qjo n d=0∨qjo n d=8:=by unfold qjo;split<;>simp
theorem qjv {n d:Int} (h:qjo n d=0):1<=d/\n ≠ -9223372036854775808/\Nat.gcd d.toNat n.natAbs=1:=by
 unfold qjo qjn at h;split at h
 ·rename_i h';simpa using h'
 ·omega
def qk1 (i a b:Int):Bool:=decide (0<=i/\i<=65535/\-1048576<=a/\a<=1048576/\-1048576<=b/\b<=1048576)
def qk2 (i a b:Int):Int:=if qk1 i a b then 0 else 8
theorem qk3 {i a b:Int} (h:0<=i/\i<=65535/\-1048576<=a/\a<=1048576/\-1048576<=b/\b<=1048576):qk2 i a b=0:=by unfold qk2 qk1;rw[if_pos];simpa using h
theorem qk4 {i a b:Int} (h:¬ (0<=i/\i<=65535/\-1048576<=a/\a<=1048576/\-1048576<=b/\b<=1048576)):qk2 i a b=8:=by unfold qk2 qk1;rw[if_neg];simpa using h
theorem qk5 (i a b:Int):qk2 i a b=0∨qk2 i a b=8:=by unfold qk2;split<;>simp
theorem qk6 {i a b:Int} (h:qk2 i a b=0):0<=i/\i<=65535/\-1048576<=a/\a<=1048576/\-1048576<=b/\b<=1048576:=by
 unfold qk2 qk1 at h;split at h
 ·rename_i h';simpa using h'
 ·omega
def far (n:Int):Bool:=decide (n < -1048576∨1048576<n)
theorem qk9 (n:Int):far n=(decide (n < -1048576) || decide (1048576<n)):=by unfold far;rw[Bool.eq_iff_iff];simp
theorem qkc (n:Int):(far n=true)↔(n < -1048576∨1048576<n):=by unfold far;simp
theorem qkd (n:Int):(far n=false)↔(-1048576<=n/\n<=1048576):=by unfold far;simp
def bld (neg:Bool) (hi lo dhi dlo:Nat):Int×Int×Int :=
 if 0<hi∨9223372036854775807<lo∨0<dhi∨9223372036854775807<dlo then (0,0,16) else (if neg then -(lo:Int) else lo,dlo,0)
theorem qke {neg:Bool} {hi lo dhi dlo:Nat} (h:0<hi∨9223372036854775807<lo∨0<dhi∨9223372036854775807<dlo):bld neg hi lo dhi dlo=(0,0,16):=by unfold bld;rw[if_pos h]
theorem qkf {hi lo dhi dlo:Nat} (h:¬ (0<hi∨9223372036854775807<lo∨0<dhi∨9223372036854775807<dlo)):bld true hi lo dhi dlo=(-(lo:Int),(dlo:Int),0):=by unfold bld;rw[if_neg h];rfl
theorem qkg {hi lo dhi dlo:Nat} (h:¬ (0<hi∨9223372036854775807<lo∨0<dhi∨9223372036854775807<dlo)):bld false hi lo dhi dlo=((lo:Int),(dlo:Int),0):=by unfold bld;rw[if_neg h];rfl
theorem qkh (a b:Bool) (dhi dlo:Nat):bld a 0 0 dhi dlo=bld b 0 0 dhi dlo:=by unfold bld;simp
def mk (n d:Int):Int×Int×Int :=
 if d=0 then (0,0,26) else bld (decide (n<0) != decide (d<0)) 0 (n.natAbs/Nat.gcd n.natAbs d.natAbs) 0 (d.natAbs/Nat.gcd n.natAbs d.natAbs)
theorem qki (n:Int):mk n 0=(0,0,26):=by unfold mk;rw[if_pos rfl]
theorem qkj {n d:Int} (h:d≠0):mk n d=bld (decide (n<0) != decide (d<0)) 0 (n.natAbs/Nat.gcd n.natAbs d.natAbs) 0 (d.natAbs/Nat.gcd n.natAbs d.natAbs):=by unfold mk;rw[if_neg h]
theorem qkk {n d:Int} (h:d≠0):1<=Nat.gcd n.natAbs d.natAbs:=Nat.gcd_pos_of_pos_right _ (by omega)
theorem qkl {a g B:Nat} (h:a<B):a/g<B:=Nat.lt_of_le_of_lt (Nat.div_le_self _ _) h
theorem qkm {n d:Int} (h:d≠0):mk n d=bld (!(decide (n<0)==decide (d<0))) 0 (n.natAbs/Nat.gcd n.natAbs d.natAbs) 0 (d.natAbs/Nat.gcd n.natAbs d.natAbs):=qkj h
theorem qkn {n d:Int} (h:d≠0) (k:(!(decide (n<0)==decide (d<0)))=true):mk n d=bld (n != 0) 0 (n.natAbs/Nat.gcd n.natAbs d.natAbs) 0 (d.natAbs/Nat.gcd n.natAbs d.natAbs):=by
 rw[qkm h,k]
 by_cases c:n=0
 ·subst c;simp only[Int.natAbs_zero,Nat.zero_div];exact qkh _ _ _ _
 ·have:(n != 0)=true:=by simpa using c
  rw[this]
theorem qko {n d:Int} (h:d≠0) (k:(!(decide (n<0)==decide (d<0)))=false):mk n d=bld false 0 (n.natAbs/Nat.gcd n.natAbs d.natAbs) 0 (d.natAbs/Nat.gcd n.natAbs d.natAbs):=by
 rw[qkm h,k]
end Go.Pel
namespace Go
namespace RegC
section
variable {P:Program} {ops:Array Oper} {md:Region.Mode} {C:World->Prop}
def anyC (P:Program) (md:Region.Mode) (ops:Array Oper) (C:World->Prop) (n:Nat) (L:Array Bool->Act->Prop):Nat->Array Bool->Act->Prop
 | 0,li,a=>L li a
 | f+1,li,a=>Region.ready md ops li ≠ []/\∀ i∈Region.ready md ops li,i<n/\qOp P ops C i (anyC P md ops C n L f (li.setIfInBounds i true)) a
theorem qkp {n g:Nat} {L:Array Bool->Act->Prop} {Q':Exit->Act->World->Prop}
 (hL:∀ li a w,C w->L li a->wpAny P md ops Q' g li a w) :
 ∀ (f:Nat) (li:Array Bool) (a:Act) (w:World),C w->anyC P md ops C n L f li a->wpAny P md ops Q' (f+g) li a w:=by
 intro f
 induction f with
 | zero=>intro li a w hw h;rw[Nat.zero_add];exact hL _ _ _ hw h
 | succ f ih =>
  intro li a w hw h
  rw[show f+1+g=(f+g)+1 from by omega]
  exact⟨fun h0=>absurd h0 h.1,fun i hi=>wpOp_of_qOp hw (fun a' w' hw' h'=>ih _ a' w' hw' h') (h.2 i hi).2⟩
theorem qkq {n i:Nat} {oi:Oper} {v:Value} {L:Array Bool->Act->Prop} (hi:ops[i]?=some oi)
 (hsel:∀ (j:Nat) (o:Oper) cs b,ops[j]?=some o->o.op ≠ .select cs b)
 (hs:Region.sinkB md ops n=true) (hc:Region.chainB md ops n=true) (hn:n<ops.size) (hin:i<n)
 (hdone:∀ li a,L li a->∀ j∈Region.ready md ops li,n<=j) :
 ∀ (f:Nat) (li:Array Bool) (a:Act),HeadInv md ops n li ->
 (∀ j oj,ops[j]?=some oj->j≠i->li.getD j true=false->(∀ e∈oj.after,Region.binds md e=true->e.on≠i)->oi.apart ops oj=true) ->
 i∈Region.ready md ops li->YieldsIn P ops C oi v a ->
 anyC P md ops C n L f (li.setIfInBounds i true) (a.put oi.dst v)->anyC P md ops C n L (f+1) li a:=by
 intro f
 induction f with
 | zero =>
  intro li a inv _ hr hy H
  refine⟨fun h=>(by rw[h]at hr;cases hr),fun j hj=>?_⟩
  have hjn:j<n:=Nat.lt_of_not_le fun h=>tail_waits hs hc hn inv _ i rfl hin (mem_ready.1 hr).1 j h hj
  refine⟨hjn,?_⟩
  by_cases hji:j=i
  ·subst hji;exact hy.qOp hi H
  ·have:=hdone _ _ H j (ready_mono hj hji);omega
 | succ f ih =>
  intro li a inv hfree hr hy H
  have hun:=(mem_ready.1 hr).1
  refine⟨fun h=>(by rw[h]at hr;cases hr),fun j hj=>?_⟩
  have hjn:j<n:=Nat.lt_of_not_le fun h=>tail_waits hs hc hn inv _ i rfl hin hun j h hj
  refine⟨hjn,?_⟩
  by_cases hji:j=i
  ·subst hji;exact hy.qOp hi H
  ·have h1:=(H.2 j (ready_mono hj hji)).2
   obtain⟨hjun,oj,hoj,hall⟩:=mem_ready.1 hj
   have hnot:∀ e∈oj.after,Region.binds md e=true->e.on≠i:=fun e he hb heq=>by
    have h3:=hall e he hb
    rw[heq,getD_both hun]at h3
    cases h3
   have h2:=qOp_put hoj (hfree j oj hoj hji hjun hnot) (fun cs b=>hsel i oi cs b hi) (fun cs b=>hsel j oj cs b hoj) hy h1
   refine qOp_mono (fun a' h3=>ih (li.setIfInBounds j true) a' (inv.set hj hjn) (fun k ok hk hki hunk hno=>?_) (ready_mono hr (Ne.symm hji)) h3.1 ?_) h2
   ·refine hfree k ok hk hki ?_ hno
    by_cases hjk:j=k
    ·subst hjk;exact hjun
    ·rw[getD_set_ne true hjk]at hunk;exact hunk
   ·rw[Array.setIfInBounds_comm _ _ hji]
    exact h3.2
theorem qkr {n g:Nat} {Lq:Act->Prop} (hsel:Region.noSelect ops=true) (hs:Region.sinkB md ops n=true) (hc:Region.chainB md ops n=true) (hn:n<ops.size) :
    ∀ (l:List Oper) (k:Nat) (li:Array Bool) (a:Act),(∀ j,j<l.length->l[j]?=ops[k+j]?)->k+l.length=n->HeadInv md ops n li ->
    Region.lexHead md ops g l.length k li=true->wpQuiet P ops C Lq l a ->
    anyC P md ops C n (fun li' a'=>Region.seqB md ops g n li'=true/\Lq a') l.length li a
  | [], k, li, a, _, hk, _, hB, h => by
    obtain rfl:k=n:=by simpa using hk
    exact⟨by simpa [Region.lexHead] using hB,h⟩
  | o::l, k, li, a, hl, hk, inv, hB, h => by
    have h0:ops[k]?=some o:=by simpa using (hl 0 (by simp)).symm
    simp only[List.length_cons,Region.lexHead,Bool.and_eq_true]at hB
    obtain⟨⟨hr,hf⟩,hB'⟩:=hB
    have hkn:k<n:=by simp only[List.length_cons]at hk;omega
    have hr':k∈Region.ready md ops li:=by simpa using hr
    have hst:qOp P ops C k (wpQuiet P ops C Lq l) a:=by unfold qOp;simp only[h0];exact h
    obtain⟨v,hy,hK⟩:=yieldsIn_of_qOp h0 hst
    exact qkq h0 (Region.noSelect_spec hsel) hs hc hn hkn (fun li' a' hL=>seqB_ready hL.1) l.length li a inv (Region.free_spec h0 hf) hr' hy
      (qkr hsel hs hc hn l (k+1) _ _ (fun j hj=>by have:=hl (j+1) (by simp;omega);simpa [Nat.add_assoc,Nat.add_comm 1 j] using this)
        (by simp only[List.length_cons]at hk;omega) (inv.set hr' hkn) hB' hK)
theorem qks {id:Nat} {Q:Exit->Act->World->Prop} {a:Act} {w:World} {l:List Oper} (n:Nat) (hm:P.follows .mixedOrders=true) (hB:Region.lexTailB .any l.toArray n=true)
 (hC:C { w with drawn:=w.drawn+1 })
 (h:wpQuiet P l.toArray C (fun a'=>∀ w',C w'->wpList P l.toArray Q (l.drop n) a' w') (l.take n) a):(Code.region id l.toArray true).wp P Q a w:=by
 simp only[Region.lexTailB,Bool.and_eq_true,decide_eq_true_eq]at hB
 obtain⟨⟨⟨⟨hsel,hn⟩,hs⟩,hc⟩,hlex⟩:=hB
 have hn':n<l.length:=by simpa using hn
 have htl:(l.take n).length=n:=by simp;omega
 have hdl:(l.drop n).length=l.toArray.size-n:=by simp
 have inv0:HeadInv .any l.toArray n (Array.replicate l.toArray.size false) :=
  ⟨by simp,fun j oj _ hl=>(by rw[getD_replicate_false]at hl;cases hl),fun t _ ht=>getD_in (by simpa using ht) (getD_replicate_false _ _)⟩
 have H:=qkr (C:=C) (md:=.any) (g:=l.toArray.size-n) hsel hs hc hn (l.take n) 0 _ a (fun j hj=>by
  have hj':j<n:=by rw[htl]at hj;exact hj
  simp[hj']) (by simpa using htl) inv0 (by rw[htl];exact hlex) h
 refine wp_region_any hm ?_
 have:=qkp (Q':=Q) (g:=l.toArray.size-n) (fun li a' w' hw' hL=>by
  have:=wpAny_of_seq (md:=.any) (Q':=Q) (l.drop n) n li a' w' (fun j=>by simp[List.getElem?_drop]) (by rw[hdl];exact hL.1) (hL.2 w' hw')
  rwa[hdl]at this) _ _ _ _ hC H
 rw[htl,show n+(l.toArray.size-n)=l.toArray.size from by omega]at this
 exact this
end
theorem wpQuiet_split {P:Program} {ops:Array Oper} {C:World->Prop} {Q:Act->Prop} {a:Act} {o:Oper} {rest:List Oper} {j:Nat} {want b:Bool}
 (_hg:o.guard=some (j,want)) (_hy:yielded ops a.tmps j=some b) (ht:b=true->wpQuiet P ops C Q (o::rest) a) (hf:b=false->wpQuiet P ops C Q (o::rest) a):wpQuiet P ops C Q (o::rest) a:=by
 cases b
 ·exact hf rfl
 ·exact ht rfl
section
variable {P:Program}
theorem wp_region_ext0 {id:Nat} {Q:Exit->Act->World->Prop} {a:Act} {w:World} {l:List Oper} (hm:P.follows .mixedOrders=true) (hB:Region.lexB .any l.toArray=true)
 (h:wpQuiet P l.toArray (fun w'=>∃ x,w'=ext w x) (fun a'=>∀ w',(∃ x,w'=ext w x)->Q .normal a' w') l a):(Code.region id l.toArray true).wp P Q a w :=
 wp_region_quiet (C:=fun w'=>∃ x,w'=ext w x) hm hB (Go.ext_of ((Bel.refl w).drewN 1)) (by simpa using h)
theorem wp_region_ext1 {id:Nat} {Q:Exit->Act->World->Prop} {a:Act} {w:World} {z:Beyond} {l:List Oper} (hm:P.follows .mixedOrders=true) (hB:Region.lexB .any l.toArray=true)
 (h:wpQuiet P l.toArray (fun w'=>∃ x,w'=ext w (z.and x)) (fun a'=>∀ w',(∃ x,w'=ext w (z.and x))->Q .normal a' w') l a):(Code.region id l.toArray true).wp P Q a (ext w z) :=
 wp_region_quiet (C:=fun w'=>∃ x,w'=ext w (z.and x)) hm hB (Go.ext_of1 ((Bel.refl (ext w z)).drewN 1)) (by simpa using h)
theorem wp_region_tail0 {id:Nat} {Q:Exit->Act->World->Prop} {a:Act} {w:World} {l:List Oper} (n:Nat) (hm:P.follows .mixedOrders=true) (hB:Region.lexTailB .any l.toArray n=true)
 (h:wpQuiet P l.toArray (fun w'=>∃ x,w'=ext w x) (fun a'=>∀ w',(∃ x,w'=ext w x)->wpList P l.toArray Q (l.drop n) a' w') (l.take n) a):(Code.region id l.toArray true).wp P Q a w :=
 qks (C:=fun w'=>∃ x,w'=ext w x) n hm hB (Go.ext_of ((Bel.refl w).drewN 1)) h
theorem wp_region_tail1 {id:Nat} {Q:Exit->Act->World->Prop} {a:Act} {w:World} {z:Beyond} {l:List Oper} (n:Nat) (hm:P.follows .mixedOrders=true) (hB:Region.lexTailB .any l.toArray n=true)
 (h:wpQuiet P l.toArray (fun w'=>∃ x,w'=ext w (z.and x)) (fun a'=>∀ w',(∃ x,w'=ext w (z.and x))->wpList P l.toArray Q (l.drop n) a' w') (l.take n) a):(Code.region id l.toArray true).wp P Q a (ext w z) :=
 qks (C:=fun w'=>∃ x,w'=ext w (z.and x)) n hm hB (Go.ext_of1 ((Bel.refl (ext w z)).drewN 1)) h
end
end RegC
end Go
namespace Go
namespace RegC
end RegC
end Go
namespace Go
theorem qkw {p:Program} {w w':World} {a:Addr} {u:TypeId} {k:Addr} {v:Value} {b:Bool} {l:List Addr} (h:w.viewStore p a u k v b=.ok (w',l)):w'.drawn=w.drawn:=by
 unfold World.viewStore at h
 simp only[bind,Except.bind,pure,Except.pure,throw,throwThe,MonadExceptOf.throw]at h
 repeat' (split at h<;>try (cases h;done))
 all_goals (try (cases h;rfl))
theorem qkx {p:Program} {w w':World} {a:Addr} {v:Value} {b:Bool} {l:List Addr} (h:w.farStore p a v b=.ok (w',l)):w'.drawn=w.drawn:=by
 unfold World.farStore at h
 split at h
 ·split at h
  ·cases h;exact qkw ‹_›
  ·cases h
 ·cases h
theorem qky {α:Type}:∀ (x:Ask α) (w:World),w.drawn<=(w.ask x).2.drawn
 | .done _,_=>Nat.le_refl _
 | .ask what range k, w => by
  unfold World.ask
  dsimp only
  split
  ·exact qky (k 0) w
  ·exact Nat.le_trans (Nat.le_succ _) (qky (k _) { w with drawn:=w.drawn+1 })
theorem qkz (w:World) (c:Sys):w.drawn<=(w.sys c).2.drawn:=by
 have h:=qky (Kernel.perform c w.os) w
 unfold World.sys
 split
 ·exact Nat.le_refl _
 ·rename_i heq;rw[heq]at h;exact h
theorem ql0 (w:World) (a:Addr) (n:Nat):(w.freeze a n).drawn=w.drawn:=by unfold World.freeze;split<;>rfl
theorem ql1 {α:Type} {P:Program}:∀ (s:Sem α) (w w':World) (v:α),s.run P w=.ok v w'->w.drawn<=w'.drawn:=by
  intro s
  induction s with
  | pure a=>intro w w' v h;unfold Sem.run at h;cases h;exact Nat.le_refl _
  | load m a k ih =>
    intro w w' v h;unfold Sem.run at h
    split at h
    · exact ih _ _ _ _ h
    · split at h
      · exact ih _ _ _ _ h
      · cases h
  | store m a u k ih =>
    intro w w' v h
    cases u<;>simp only[Sem.run]at h
    all_goals first
      | (cases h;done)
      | (split at h
         · split at h
           · cases h
           · have:=ih _ _ _ h;exact this
         · split at h
           · have:=ih _ _ _ h
             rw[qkx ‹_›]at this;exact this
           · cases h)
  | new o k ih=>intro w w' v h;unfold Sem.run at h;have:=ih _ _ _ _ h;exact this
  | shape r k ih=>intro w w' v h;unfold Sem.run at h;have:=ih _ _ _ _ h;exact this
  | freeze a n k ih=>intro w w' v h;unfold Sem.run at h;have:=ih _ _ _ h;rwa[ql0]at this
  | frozen a k ih=>intro w w' v h;unfold Sem.run at h;have:=ih _ _ _ _ h;exact this
  | getObj r k ih =>
    intro w w' v h;unfold Sem.run at h
    split at h
    · cases h
    · exact ih _ _ _ _ h
    · cases h
  | setObj r o k ih =>
    intro w w' v h;unfold Sem.run at h
    split at h
    · cases h
    · have:=ih _ _ _ h;exact this
    · cases h
  | choose q k ih =>
    intro w w' v h;unfold Sem.run at h
    split at h
    · exact ih _ _ _ _ h
    · exact Nat.le_trans (Nat.le_succ _) (ih _ _ _ _ h)
  | sys c k ih=>intro w w' v h;unfold Sem.run at h;exact Nat.le_trans (qkz w c) (ih _ _ _ _ h)
  | program k ih=>intro w w' v h;unfold Sem.run at h;have:=ih _ _ _ _ h;exact this
  | mark m k ih=>intro w w' v h;unfold Sem.run at h;exact ih _ _ _ h
  | halt h0=>intro w w' v h;unfold Sem.run at h;cases h
section
variable {P:Program}
theorem ql2 {w:World} {o:Oper} {a:Act} {K:Act->World->Prop} {Q:Exit->Act->World->Prop} (s x:Operand) (t:TypeId)
 (ho:o.op=.call { callee:=.builtin .append,args:=#[s,x],argTypes:=#[t,t] })
 (base:Nat) (e:TypeId) (i:TypeInfo) (z:Value) (size bytes:Nat) (ht:P.underlying t=some (.slice e)) (hi:P.info? e=some i) (hz:i.zero=some z)
 (hsize:i.size=size) (hby:i.bytes=bytes) (hzs:z.cells.size=size) (hsz:0<size)
 (v:Value) (n:Nat) (xs:List Value) (hs:a.eval s=v) (hown:w.ownsRow base e size v n xs)
 (ad:Addr) (m c:Nat) (news:List Value) (hx:a.eval x=.slice (some ad) m c) (hl:news.length=m*size) (hnews:∀ j u,news[j]?=some u->w.cell? (ad.add j)=some u) (h1:∀ u∈news,u.oneCell'=true)
 (h63:n+m<=maxLen) (hbytes:(n+m)*bytes<=140737488355328) (hbase:base<=w.heap.size)
 (h:∀ v' w',w'.ownsRow base e size v' (n+m) (xs++news)->w.grownBy w' v.ownBlock->w.drawn<=w'.drawn->K (a.put o.dst v') w'):o.wp P a w K Q:=by
 obtain⟨v',w',hr,h2,h3,h4⟩:=run_append_own (P:=P) w base t o.type e i z size bytes ht hi hz hsize hby hzs hsz v n xs hown ad m c news hl hnews h1 h63 hbytes hbase
 unfold Oper.wp execOp
 simp only[ho,resolve,invoke,builtin,Sem.run_bind,Sem.run_pure,Result.andThen_ok,List.map_toArray,List.map_cons,List.map_nil,hs,hx,hr]
 exact h v' w' h2 h3 (ql1 _ _ _ _ hr)
theorem ql3 {w:World} {ops:Array Oper} {rest:List Oper} {o:Oper} {a:Act} {Q:Exit->Act->World->Prop} (hgd:o.guard=none) (s x:Operand) (t:TypeId)
 (ho:o.op=.call { callee:=.builtin .append,args:=#[s,x],argTypes:=#[t,t] })
 (base:Nat) (e:TypeId) (i:TypeInfo) (z:Value) (size bytes:Nat) (ht:P.underlying t=some (.slice e)) (hi:P.info? e=some i) (hz:i.zero=some z)
 (hsize:i.size=size) (hby:i.bytes=bytes) (hzs:z.cells.size=size) (hsz:0<size)
 (v:Value) (n:Nat) (xs:List Value) (hs:a.eval s=v) (hown:w.ownsRow base e size v n xs)
 (ad:Addr) (m c:Nat) (news:List Value) (hx:a.eval x=.slice (some ad) m c) (hl:news.length=m*size) (hnews:∀ j u,news[j]?=some u->w.cell? (ad.add j)=some u) (h1:∀ u∈news,u.oneCell'=true)
 (h63:n+m<=maxLen) (hbytes:(n+m)*bytes<=140737488355328) (hbase:base<=w.heap.size)
 (h:∀ v' w',w'.ownsRow base e size v' (n+m) (xs++news)->w.grownBy w' v.ownBlock->w.drawn<=w'.drawn->wpList P ops Q rest (a.put o.dst v') w'):wpList P ops Q (o::rest) a w :=
 wpList_plain hgd fun _ hK=>ql2 s x t ho base e i z size bytes ht hi hz hsize hby hzs hsz v n xs hs hown ad m c news hx hl hnews h1 h63 hbytes hbase fun v' w' h2 h3 h4=>hK _ _ (h v' w' h2 h3 h4)
end
end Go
namespace Go
open RowKit
def Sl (w:World) (size:Nat) (A:Option Addr) (n c:Nat) (xs:List Value):Prop :=
 n<=c/\xs.length=n*size/\(0<n->∃ b o,A=some ⟨b,o,none⟩/\b<w.heap.size/\∀ j u,xs[j]?=some u->w.cell? ⟨b,o+j,none⟩=some u)
def Own (w:World) (base:Nat) (e:TypeId) (size:Nat) (A:Option Addr) (n c:Nat) (xs:List Value):Prop:=w.ownsRow base e size (.slice A n c) n xs
structure SlT (P:Program) (t e:TypeId) (z:Value) (size bytes:Nat):Prop where
 und:P.underlying t=some (.slice e)
 info:(P.info? e).map (fun i=>(i.zero,i.size,i.bytes))=some (some z,size,bytes)
 zs:z.cells.size=size
 pos:0<size
 small:bytes<=1024
section
variable {w:World} {size n c:Nat} {A:Option Addr} {xs:List Value}
theorem Sl.len (h:Sl w size A n c xs):xs.length=n*size:=h.2.1
theorem Sl.cap (h:Sl w size A n c xs):n<=c:=h.1
theorem Sl.ext (h:Sl w size A n c xs) (x:Beyond):Sl (ext w x) size A n c xs :=
 ⟨h.1,h.2.1,fun hn=>by
  obtain⟨b,o,rfl,hb,hc⟩:=h.2.2 hn
  exact⟨b,o,rfl,by rw[qae];omega,fun j u hu=>by rw[qdc w x b _ hb];exact hc j u hu⟩⟩
theorem Sl.bel {w':World} (h:Sl w size A n c xs) (hb:Bel w w'):Sl w' size A n c xs:=by
 obtain⟨x,rfl⟩:=ext_of hb;exact h.ext x
theorem Sl.nil_ (w:World) (size c:Nat) (A:Option Addr):Sl w size A 0 c []:=⟨Nat.zero_le _,by simp,fun h=>absurd h (by omega)⟩
theorem Sl.take (h:Sl w size A n c xs) {k:Nat} (hk:k<=n):Sl w size A k c (xs.take (k*size)) :=
 ⟨Nat.le_trans hk h.1,by rw[List.length_take,h.2.1];exact Nat.min_eq_left (Nat.mul_le_mul_right _ hk),fun hn=>by
  obtain⟨b,o,rfl,hb,hc⟩:=h.2.2 (by omega)
  refine⟨b,o,rfl,hb,fun j u hu=>hc j u ?_⟩
  rw[List.getElem?_take]at hu
  split at hu
  ·exact hu
  ·cases hu⟩
theorem Sl.cell {b o:Nat} (h:Sl w size (some ⟨b,o,none⟩) n c xs) {j:Nat} {u:Value} (hu:xs[j]?=some u):w.cell? ⟨b,o+j,none⟩=some u:=by
 have hl:j<xs.length:=(List.getElem?_eq_some_iff.1 hu).1
 have hn:0<n:=Nat.pos_of_ne_zero fun h0=>by rw[h.2.1,h0,Nat.zero_mul]at hl;omega
 obtain⟨b',o',hA,_,hc⟩:=h.2.2 hn
 injection hA with hA
 injection hA with h1 h2
 subst h1 h2
 exact hc j u hu
theorem Sl.at_ (h:Sl w size A n c xs) (hn:0<n):∃ b o,A=some ⟨b,o,none⟩/\b<w.heap.size:=by
 obtain⟨b,o,hA,hb,_⟩:=h.2.2 hn;exact⟨b,o,hA,hb⟩
theorem Own.nil_ (w:World) (base:Nat) (e:TypeId) (size:Nat):Own w base e size none 0 0 []:=World.ownsRow_nil w base e size
theorem Own.len {base:Nat} {e:TypeId} (h:Own w base e size A n c xs):xs.length=n*size:=h.1
theorem Own.cap {base:Nat} {e:TypeId} (h:Own w base e size A n c xs):n<=c:=by
 rcases h.2 with⟨h1,h2⟩ | ⟨g,cap,cur,hv,_,_,hnc,_⟩
 ·omega
 ·injection hv with _ _ h3;omega
theorem Own.at_ {base:Nat} {e:TypeId} (h:Own w base e size A n c xs) (hn:0<n):∃ g,A=some ⟨g,0,none⟩/\base<=g/\g<w.heap.size:=by
 rcases h.2 with⟨h1,h2⟩ | ⟨g,cap,cur,hv,hg,hh,_⟩
 ·omega
 ·injection hv with h1
  refine⟨g,h1,hg,Nat.lt_of_not_le fun hle=>?_⟩
  rw[Array.getElem?_eq_none hle]at hh;cases hh
theorem Own.block {base:Nat} {e:TypeId} (h:Own w base e size A n c xs):(Value.slice A n c).ownBlock=none ∨ ∃ g,(Value.slice A n c).ownBlock=some g/\base<=g/\g<w.heap.size:=by
 cases hA:(Value.slice A n c).ownBlock with
 | none=>exact .inl rfl
 | some g=>exact .inr ⟨g,rfl,World.ownsRow.lt h g hA⟩
theorem Own.sl {base:Nat} {e:TypeId} (h:Own w base e size A n c xs):Sl w size A n c xs :=
 ⟨h.cap,h.len,fun hn=>by
  obtain⟨g,rfl,_,hlt⟩:=h.at_ hn
  refine⟨g,0,rfl,hlt,fun j u hu=>?_⟩
  have hj:j<n*size:=by rw[← h.len];exact (List.getElem?_eq_some_iff.1 hu).1
  rw[Nat.zero_add,World.ownsRow.cellAt h j hj,hu]⟩
theorem Own.bel {base:Nat} {e:TypeId} {w':World} (h:Own w base e size A n c xs) (hb:Bel w w'):Own w' base e size A n c xs:=by
 refine World.ownsRow.kept (row:=none) h ⟨hb.os,hb.tape,hb.output,hb.size,fun k hk _=>hb.block k hk⟩ ?_
 rcases h.block with h0 | ⟨g,h0,_⟩
 ·exact .inl h0
 ·exact .inr (by rw[h0];exact fun e=>by cases e)
theorem Own.ext {base:Nat} {e:TypeId} (h:Own w base e size A n c xs) (x:Beyond):Own (ext w x) base e size A n c xs:=h.bel (qai w x)
theorem Own.alloc {base:Nat} {e:TypeId} (h:Own w base e size A n c xs) (ob:Obj):Own (w.alloc ob) base e size A n c xs:=h.bel ((Bel.refl w).alloc ob)
theorem Own.base_le {base base':Nat} {e:TypeId} (h:Own w base e size A n c xs) (hb:base'<=base):Own w base' e size A n c xs:=by
 obtain⟨h1,h2⟩:=h
 refine⟨h1,?_⟩
 rcases h2 with h2 | ⟨g,cap,cur,hv,hg,r⟩
 ·exact .inl h2
 ·exact .inr ⟨g,cap,cur,hv,Nat.le_trans hb hg,r⟩
end
section
variable {P:Program} {ops:Array Oper} {rest:List Oper} {o:Oper} {a:Act} {Q:Exit->Act->World->Prop}
theorem ql5 {t e:TypeId} {z:Value} {size bytes:Nat} (hT:SlT P t e z size bytes) {wB W:World} (hb:Bel wB W)
 {kl kc:IntKind} {n:Nat} (hlen:n<=4294967296)
 (hgd:o.guard=none) (l c:Operand) (ho:o.op=.makeSlice t l c) (hl:a.eval l=.int kl n) (hc:a.eval c=.int kc n)
 (h:∀ g y,wB.heap.size<=g->Own (ext wB y) wB.heap.size e size (some ⟨g,0,none⟩) n n (madeCells z.cells (n*size)).toList->wpList P ops Q rest (a.put o.dst (.slice (some ⟨g,0,none⟩) n n)) (ext wB y)):wpList P ops Q (o::rest) a W:=by
 obtain⟨i,hi,hz0,hz1,hz2⟩:=info_parts hT.info
 have hby:i.bytes*n<=281474976710656:=by rw[hz2,Nat.mul_comm];exact Nat.le_trans (Nat.mul_le_mul hlen hT.small) (by decide)
 obtain⟨w',hrun,hown,hg⟩:=run_make_full (P:=P) W wB.heap.size t e i z size hT.und hi hz0 hz1 kl kc n hby (Nat.le_trans hlen (by unfold maxLen;decide)) hb.size
 have hbel:Bel wB w':=hb.grown hg (fun k hk=>by cases hk) (ql1 _ _ _ _ hrun)
 refine wpList_plain hgd fun K hK=>?_
 unfold Oper.wp
 simp[execOp,ho,hl,hc,hrun,Result.andThen]
 obtain⟨y,rfl⟩:=ext_of hbel
 exact hK _ _ (h _ y hb.size hown)
end
theorem ql7 {w:World} {base:Nat} {e:TypeId} {size g n c:Nat} {xs:List Value} (h:Own w base e size (some ⟨g,0,none⟩) n c xs) {j:Nat} {u:Value} (hu:xs[j]?=some u):w.cell? ⟨g,j,none⟩=some u:=by
 rw[World.ownsRow.cellAt h j (by rw[← h.len];exact (List.getElem?_eq_some_iff.1 hu).1),hu]
theorem ql8 {w:World} {base:Nat} {e:TypeId} {size g n c:Nat} {xs:List Value} (h:Own w base e size (some ⟨g,0,none⟩) n c xs) (j:Nat):w.frozen? ⟨g,j,none⟩=false:=World.ownsRow.frozenAt h j
def vb (l:List UInt8):List Value:=l.map fun x=>.int .u8 (x.toNat:Int)
section
variable {P:Program}
end
theorem qlk {w W0 W:World} {base:Nat} {e:TypeId} {size n c:Nat} {A:Option Addr} {xs:List Value} (hb:Bel w W) (h:Own W0 base e size A n c xs) (h0:Bel W0 W) (hbase:w.heap.size<=base):∃ x,W=ext w x/\Own (ext w x) w.heap.size e size A n c xs:=by
 obtain⟨x,hx⟩:=ext_of hb
 exact⟨x,hx,by rw[← hx];exact (h.bel h0).base_le hbase⟩
end Go
namespace Go
end Go
namespace Go
open RowKit
section
variable {P:Program} {ops:Array Oper} {rest:List Oper} {o:Oper} {a:Act} {Q:Exit->Act->World->Prop}
end
section
variable {P:Program}
end
section
variable {P:Program} {ops:Array Oper} {rest:List Oper} {o:Oper} {a:Act} {Q:Exit->Act->World->Prop}
theorem qlv {t e:TypeId} {z:Value} {size bytes:Nat} (hT:SlT P t e z size bytes) {wB W0 W1 W:World} (hb:Bel wB W)
    {A:Option Addr} {n c:Nat} {xs:List Value} (hown:Own W0 wB.heap.size e size A n c xs) (hb0:Bel W0 W)
    {A1:Option Addr} {m c':Nat} {news:List Value} (hsrc:Sl W1 size A1 m c' news) (hb1:Bel W1 W) (h1:∀ u∈news,u.oneCell'=true) (hnil:A1=none->c'=0) (hlen:n+m<=4294967296)
    (hgd:o.guard=none) (s x:Operand) (ho:o.op=.call { callee:=.builtin .append,args:=#[s,x],argTypes:=#[t,t] })
    (hs:a.eval s=.slice A n c) (hx:a.eval x=.slice A1 m c')
    (h:∀ A' c'' y,Own (ext wB y) wB.heap.size e size A' (n+m) c'' (xs++news)->wpList P ops Q rest (a.put o.dst (.slice A' (n+m) c'')) (ext wB y)):wpList P ops Q (o::rest) a W:=by
  obtain⟨i,hi,hz0,hz1,hz2⟩:=info_parts hT.info
  have hown':=hown.bel hb0
  cases A1 with
  | none =>
    have hm:m=0:=Nat.eq_zero_of_not_pos fun hp=>by obtain⟨b,o',hA,_⟩:=hsrc.at_ hp;cases hA
    subst hm
    obtain rfl:=hnil rfl
    have hn:news=[]:=List.eq_nil_of_length_eq_zero (by simpa using hsrc.len)
    subst hn
    obtain⟨y,rfl⟩:=ext_of hb
    have hrun:=run_append_owned_none (P:=P) (w:=ext wB y) wB.heap.size t o.type e i size hT.und hi _ n xs hown'
    refine wpList_plain hgd fun K hK=>?_
    unfold Oper.wp execOp
    simp only[ho,resolve,invoke,builtin,Sem.run_bind,Sem.run_pure,Result.andThen_ok,List.map_toArray,List.map_cons,List.map_nil,hs,hx,hrun]
    exact hK _ _ (h A c y (by simpa using hown'))
  | some ad =>
    have hby:(n+m)*bytes<=140737488355328:=Nat.le_trans (Nat.mul_le_mul hlen hT.small) (by decide)
    have hsrc':=hsrc.bel hb1
    refine ql3 hgd s x t ho wB.heap.size e i z size bytes hT.und hi hz0 hz1 hz2 hT.zs hT.pos _ n xs hs hown' ad m c' news hx hsrc'.len
      (fun j u hu=>?_) h1 (Nat.le_trans hlen (by unfold maxLen;decide)) hby hb.size fun v' w' hown2 hg hmono=>?_
    · have hl:j<news.length:=(List.getElem?_eq_some_iff.1 hu).1
      have hp:0<m:=Nat.pos_of_ne_zero fun h0=>by rw[hsrc'.len,h0,Nat.zero_mul]at hl;omega
      obtain⟨b,o',hA,_⟩:=hsrc'.at_ hp
      injection hA with hA
      subst hA
      have hj:=hsrc'.cell hu
      unfold Addr.add
      split
      · rename_i h0;rw[h0]at hj;exact hj
      · exact hj
    · have hbel:Bel wB w':=hb.grown hg (fun k hk=>by
        rcases hown'.block with h0 | ⟨g,h0,hge,_⟩
        · rw[h0]at hk;cases hk
        · rw[h0]at hk;injection hk with hk;omega) hmono
      obtain⟨y,rfl⟩:=ext_of hbel
      have hv:∃ A' c'',v'=.slice A' (n+m) c'':=by
        rcases hown2.2 with⟨hv,hn⟩ | ⟨g,cap,cur,hv,_⟩
        · exact⟨none,0,by rw[hv,hn]⟩
        · exact⟨_,_,hv⟩
      obtain⟨A',c'',rfl⟩:=hv
      exact h A' c'' y hown2
end
end Go
namespace Go
theorem qlw {w W0 W:World} {base:Nat} {e:TypeId} {size n c:Nat} {A:Option Addr} {xs:List Value} (hb:Bel w W) (h:Own W0 base e size A n c xs) (h0:Bel W0 W):∃ y,W=ext w y/\Own (ext w y) base e size A n c xs:=by
 obtain⟨y,hy⟩:=ext_of hb
 exact⟨y,hy,by rw[← hy];exact h.bel h0⟩
end Go
namespace Go
open RowKit
section
variable {P:Program} {ops:Array Oper} {rest:List Oper} {o:Oper} {a:Act} {Q:Exit->Act->World->Prop}
end
theorem qly {wB W:World} (hb:Bel wB W) (cs:Array Value) (e:TypeId) (size n g:Nat) (hg:g=W.heap.size) (hn:n<=maxLen) (hs:cs.size=n*size):Own (W.alloc (.cells cs e)) wB.heap.size e size (some ⟨g,0,none⟩) n n cs.toList:=by
 subst hg
 exact World.ownsRow_lit W cs n hb.size hn hs
theorem qm2 {V V':World} {y:Beyond} {base:Nat} {e:TypeId} {size n c:Nat} {A:Option Addr} {xs:List Value} (hs:V.heap.size=V'.heap.size) (h:Own (ext V y) base e size A n c xs) (hb:V.heap.size<=base):Own (ext V' y) base e size A n c xs:=by
 obtain⟨h1,h2⟩:=h
 refine⟨h1,?_⟩
 rcases h2 with h2 | ⟨g,cap,cur,hv,hg,hh,r⟩
 ·exact .inl h2
 ·refine .inr ⟨g,cap,cur,hv,hg,?_,r⟩
  have e1:(ext V y).heap=V.heap++y.objs:=by unfold ext;rfl
  have e2:(ext V' y).heap=V'.heap++y.objs:=by unfold ext;rfl
  rw[e1,Array.getElem?_append_right (by omega)]at hh
  rw[e2,Array.getElem?_append_right (by omega),← hs]
  exact hh
section
variable {P:Program} {ops:Array Oper} {rest:List Oper} {o:Oper} {a:Act} {Q:Exit->Act->World->Prop}
theorem qm3 {w:World} {j:Nat} {want:Bool} (hg:o.guard=some (j,want)) (hy:yielded ops a.tmps j=some want) (h:wpList P ops Q ({ o with guard:=none } :: rest) a w):wpList P ops Q (o::rest) a w:=by
 have h1:Region.wanted o (yielded ops a.tmps)=true:=by simp[Region.wanted,hg,hy]
 unfold wpList at h ⊢
 rw[if_pos h1]
 exact h
theorem qm5 {t e:TypeId} {z:Value} {size bytes:Nat} (hT:SlT P t e z size bytes) {wB W1 W:World} (hb:Bel wB W)
 {A1:Option Addr} {m c':Nat} {news:List Value} (hsrc:Sl W1 size A1 m c' news) (hb1:Bel W1 W) (h1:∀ u∈news,u.oneCell'=true) (hnil:A1=none->c'=0) (hlen:m<=4294967296)
 (hgd:o.guard=none) (s x:Operand) (ho:o.op=.call { callee:=.builtin .append,args:=#[s,x],argTypes:=#[t,t] }) {g:Nat}
 (hs:a.eval s=.slice (some ⟨g,0,none⟩) 0 0) (hx:a.eval x=.slice A1 m c') (hg:g=W.heap.size)
 (h:∀ A' c'' y,Own (ext wB y) wB.heap.size e size A' m c'' news->wpList P ops Q rest (a.put o.dst (.slice A' m c'')) (ext wB y)):wpList P ops Q (o::rest) a (W.alloc (.cells #[] e)):=by
 refine qlv hT (hb.alloc _) (qly hb #[] e size 0 g hg (Nat.zero_le _) (by simp)) (Bel.refl _) hsrc (hb1.alloc _) h1 hnil (by omega) hgd s x ho hs hx fun A' c'' y hown=>?_
 rw[Nat.zero_add]at hown ⊢
 exact h A' c'' y hown
end
section
variable {α:Type} {cells:α->List Value} {k:Nat}
theorem qm6 (hk:∀ a,(cells a).length=k) (l:List α):(l.flatMap cells).length=l.length*k:=by
 induction l with
 | nil=>simp
 | cons x l ih=>rw[List.flatMap_cons,List.length_append,ih,hk,List.length_cons,Nat.add_mul];omega
theorem qm7 (hk:∀ a,(cells a).length=k) {l:List α} {i:Nat} {x:α} (h:l[i]?=some x) (j:Nat) (hj:j<k):(l.flatMap cells)[i*k+j]?=(cells x)[j]?:=by
 induction l generalizing i with
 | nil=>simp at h
 | cons y l ih =>
  rw[List.flatMap_cons]
  cases i with
  | zero =>
   simp only[List.getElem?_cons_zero,Option.some.injEq]at h
   subst h
   rw[Nat.zero_mul,Nat.zero_add,List.getElem?_append_left (by rw[hk];exact hj)]
  | succ i =>
   rw[List.getElem?_append_right (by rw[hk,Nat.add_mul];omega),hk]
   have e:(i+1)*k+j-k=i*k+j:=by rw[Nat.add_mul];omega
   rw[e];exact ih (by simpa using h)
theorem qmb (h:∀ a,∀ u∈cells a,u.oneCell'=true) (l:List α):∀ u∈l.flatMap cells,u.oneCell'=true:=by
 intro u hu
 obtain⟨x,_,hx⟩:=List.mem_flatMap.1 hu
 exact h x u hx
theorem qmc {w:World} {b o n c i:Nat} {l:List α} {x:α} (hk:∀ a,(cells a).length=k) (h:Sl w k (some ⟨b,o,none⟩) n c (l.flatMap cells)) (hx:l[i]?=some x) {j:Nat} {u:Value} (hj:(cells x)[j]?=some u):w.cell? ⟨b,o+i*k+j,none⟩=some u:=by
 have hjk:j<k:=by rw[← hk x];exact (List.getElem?_eq_some_iff.1 hj).1
 have:=h.cell (j:=i*k+j) (u:=u) (by rw[qm7 hk hx j hjk];exact hj)
 rwa[← Nat.add_assoc]at this
end
end Go
namespace Go
section
variable {α:Type} {cells:α->List Value} {k:Nat}
end
end Go
namespace Go
theorem qmg (w:World) (e:TypeId) (size:Nat) (B:Nat):∃ x,w=ext w x/\Own (ext w x) B e size none 0 0 []:=by
 obtain⟨x,hx⟩:=ext_of (Bel.refl w)
 exact⟨x,hx,Own.nil_ _ _ _ _⟩
end Go
namespace Go.Pel
open Go
structure Pt where
 id:Int
 a:Int
 b:Int
 deriving DecidableEq
def Pt.zero:Pt:=⟨0,0,0⟩
def Pt.cells (p:Pt):List Value:=[.int .i64 p.id,.int .i64 p.a,.int .i64 p.b]
def Pt.chk (p:Pt):Int:=qk2 p.id p.a p.b
structure Pt.Fits (p:Pt):Prop where
 id:-9223372036854775808<=p.id/\p.id<=9223372036854775807
 a:-9223372036854775808<=p.a/\p.a<=9223372036854775807
 b:-9223372036854775808<=p.b/\p.b<=9223372036854775807
def vp (l:List Pt):List Value:=l.flatMap Pt.cells
theorem qmh (p:Pt):p.cells.length=3:=rfl
theorem qmi (p:Pt):∀ u∈p.cells,u.oneCell'=true:=by
 intro u hu
 simp only[Pt.cells,List.mem_cons,List.not_mem_nil,or_false]at hu
 rcases hu with rfl | rfl | rfl<;>rfl
theorem qmj (l:List Pt):∀ u∈vp l,u.oneCell'=true:=qmb qmi l
theorem qmk (l:List Pt):(vp l).length=l.length*3:=qm6 qmh l
theorem qmn {w:World} {b o n c i:Nat} {l:List Pt} {p:Pt} (h:Sl w 3 (some ⟨b,o,none⟩) n c (vp l)) (hx:l[i]?=some p) :
 w.cell? ⟨b,o+i*3,none⟩=some (.int .i64 p.id)/\w.cell? ⟨b,o+i*3+1,none⟩=some (.int .i64 p.a)/\w.cell? ⟨b,o+i*3+2,none⟩=some (.int .i64 p.b) :=
 ⟨qmc qmh h hx (j:=0) rfl,qmc qmh h hx (j:=1) rfl,qmc qmh h hx (j:=2) rfl⟩
def incB:List Pt->Bool
 | []=>true
 | [_]=>true
 | p::q::r=>decide (p.id<q.id)&&incB (q::r)
theorem qmo (l:List Pt):incB l=true ↔ ∀ (i:Nat) (p q:Pt),l[i]?=some p->l[i+1]?=some q->p.id<q.id:=by
 induction l with
 | nil=>simp[incB]
 | cons x l ih =>
  cases l with
  | nil=>simp[incB]
  | cons y r =>
   simp only[incB,Bool.and_eq_true,decide_eq_true_eq,ih]
   constructor
   ·rintro⟨h0,h⟩ i p q hp hq
    cases i with
    | zero=>simp at hp hq;rw[← hp,← hq];exact h0
    | succ i=>exact h i p q (by simpa using hp) (by simpa using hq)
   ·intro h
    exact⟨h 0 x y rfl rfl,fun i p q hp hq=>h (i+1) p q (by simpa using hp) (by simpa using hq)⟩
theorem qmp {l:List Pt} (h:incB l=true) {i j:Nat} (hij:i<j) {p q:Pt} (hp:l[i]?=some p) (hq:l[j]?=some q):p.id<q.id:=by
 induction j generalizing q with
 | zero=>omega
 | succ j ih =>
  rcases Nat.lt_or_ge i j with hlt | hge
  ·have hjl:j<l.length:=by have:=(List.getElem?_eq_some_iff.1 hq).1;omega
   obtain⟨m,hm⟩:∃ m,l[j]?=some m:=⟨_,List.getElem?_eq_getElem hjl⟩
   have h1:=ih hlt hm
   have h2:=(qmo l).1 h j m q hm hq
   omega
  ·obtain rfl:i=j:=by omega
   exact (qmo l).1 h i p q hp hq
def qmq (l:List Pt):Int:=if 64<l.length then 4 else if ∀ p∈l,p.chk=0 then (if incB l then 0 else 32) else 8
theorem qmr {l:List Pt} (h:64<l.length):qmq l=4:=if_pos h
theorem qms {l:List Pt} (h:l.length<=64) {p:Pt} (hp:p∈l) (hc:p.chk≠0):qmq l=8:=by
 unfold qmq;rw[if_neg (by omega),if_neg];intro h';exact hc (h' p hp)
theorem qmt {l:List Pt} (h:l.length<=64) (hc:∀ p∈l,p.chk=0) (hi:incB l=false):qmq l=32:=by
 unfold qmq;rw[if_neg (by omega),if_pos hc,hi];rfl
theorem qmu {l:List Pt} (h:l.length<=64) (hc:∀ p∈l,p.chk=0) (hi:incB l=true):qmq l=0:=by
 unfold qmq;rw[if_neg (by omega),if_pos hc,hi];rfl
theorem qmv {l:List Pt} (h:qmq l=0):l.length<=64/\(∀ p∈l,p.chk=0)/\incB l=true:=by
 unfold qmq at h
 split at h
 ·omega
 ·split at h
  ·rename_i h1 h2
   refine⟨by omega,h2,?_⟩
   split at h
   ·assumption
   ·omega
  ·omega
theorem qmx {p:Pt} (h:p.chk=0):0<=p.id/\p.id<=65535/\-1048576<=p.a/\p.a<=1048576/\-1048576<=p.b/\p.b<=1048576:=qk6 h
theorem qmy (p:Pt):p.chk=0∨p.chk=8:=qk5 _ _ _
def lowB (l:List Pt) (id:Int):Nat:=(l.takeWhile fun p=>decide (p.id<id)).length
theorem qn0 {l:List Pt} {id:Int} {k:Nat} (hk:k<=l.length) (h1:∀ (i:Nat) (p:Pt),i<k->l[i]?=some p->p.id<id) (h2:∀ p,l[k]?=some p->id<=p.id):lowB l id=k:=by
 unfold lowB
 induction l generalizing k with
 | nil=>simp at hk;simp[hk]
 | cons x l ih =>
  cases k with
  | zero =>
   have:=h2 x rfl
   rw[List.takeWhile_cons_of_neg (by simp;omega)];rfl
  | succ k =>
   have:=h1 0 x (by omega) rfl
   rw[List.takeWhile_cons_of_pos (by simpa using this),List.length_cons,ih (by simpa using hk) (fun i p hi hp=>h1 (i+1) p (by omega) (by simpa using hp)) (fun p hp=>h2 p (by simpa using hp))]
theorem qn1 {l:List Pt} {id:Int} {i:Nat} {p:Pt} (hi:i<lowB l id) (hp:l[i]?=some p):p.id<id:=by
 induction l generalizing i with
 | nil=>simp at hp
 | cons x l ih =>
  unfold lowB at hi
  by_cases hx:x.id<id
  ·rw[List.takeWhile_cons_of_pos (by simpa using hx),List.length_cons]at hi
   cases i with
   | zero=>simp at hp;subst hp;exact hx
   | succ i=>exact ih (i:=i) (by unfold lowB;omega) (by simpa using hp)
  ·rw[List.takeWhile_cons_of_neg (by simpa using hx)]at hi
   simp at hi
theorem qn2 {l:List Pt} {id:Int} {p:Pt} (hp:l[lowB l id]?=some p):id<=p.id:=by
 unfold lowB at hp
 induction l with
 | nil=>simp at hp
 | cons x l ih =>
  by_cases hx:x.id<id
  ·rw[List.takeWhile_cons_of_pos (by simpa using hx),List.length_cons]at hp
   exact ih (by simpa using hp)
  ·rw[List.takeWhile_cons_of_neg (by simpa using hx)]at hp
   simp at hp
   subst hp;omega
def hasB (l:List Pt) (id:Int):Bool:=l.any fun p=>decide (p.id=id)
theorem qn3 {l:List Pt} (h:incB l=true) (id:Int):hasB l id=(match l[lowB l id]? with | some p=>decide (p.id=id) | none=>false):=by
 cases hb:l[lowB l id]? with
 | none =>
  have hlen:l.length<=lowB l id:=by simpa using hb
  unfold hasB
  rw[List.any_eq_false]
  intro p hp
  obtain⟨i,hi⟩:=List.getElem?_of_mem hp
  have:i<l.length:=(List.getElem?_eq_some_iff.1 hi).1
  have:=qn1 (id:=id) (by omega) hi
  simp;omega
 | some q =>
  have hge:=qn2 hb
  simp only
  by_cases hq:q.id=id
  ·rw[decide_eq_true hq]
   unfold hasB
   rw[List.any_eq_true]
   exact⟨q,List.mem_of_getElem? hb,by simpa using hq⟩
  ·rw[decide_eq_false hq]
   unfold hasB
   rw[List.any_eq_false]
   intro p hp
   obtain⟨i,hi⟩:=List.getElem?_of_mem hp
   rcases Nat.lt_trichotomy i (lowB l id) with hlt | rfl | hgt
   ·have:=qn1 hlt hi;simp;omega
   ·rw[hb]at hi;obtain rfl:=Option.some.inj hi;simpa using hq
   ·have:=qmp h hgt hb hi;simp;omega
def atI (l:List Pt) (id:Int):Int:=if hasB l id then ((l.takeWhile fun p=>decide (p.id≠id)).length:Int) else -1
theorem qn4 {l:List Pt} {id:Int} (h:hasB l id=false):atI l id=-1:=by unfold atI;rw[h];rfl
theorem qn5 {l:List Pt} {id:Int} {k:Nat} {p:Pt} (h1:∀ (i:Nat) (p:Pt),i<k->l[i]?=some p->p.id≠id) (hk:l[k]?=some p) (hp:p.id=id):atI l id=k:=by
 have hb:hasB l id=true:=by
  unfold hasB;rw[List.any_eq_true];exact⟨p,List.mem_of_getElem? hk,by simpa using hp⟩
 unfold atI;rw[hb,if_pos rfl]
 congr 1
 clear hb
 induction l generalizing k with
 | nil=>simp at hk
 | cons x l ih =>
  cases k with
  | zero =>
   simp at hk;subst hk
   rw[List.takeWhile_cons_of_neg (by simpa using hp)];rfl
  | succ k =>
   have:=h1 0 x (by omega) rfl
   rw[List.takeWhile_cons_of_pos (by simpa using this),List.length_cons,ih (k:=k) (fun i p hi hp=>h1 (i+1) p (by omega) (by simpa using hp)) (by simpa using hk)]
theorem qn6 {l:List Pt} {id:Int} (h:∀ (i:Nat) (p:Pt),l[i]?=some p->p.id≠id):hasB l id=false:=by
 unfold hasB;rw[List.any_eq_false];intro p hp
 obtain⟨i,hi⟩:=List.getElem?_of_mem hp
 simpa using h i p hi
theorem qn7 {l:List Pt} (h:incB l=true) {id:Int} (hb:hasB l id=true):atI l id=lowB l id/\∃ p,l[lowB l id]?=some p/\p.id=id:=by
 rw[qn3 h]at hb
 cases hq:l[lowB l id]? with
 | none=>rw[hq]at hb;cases hb
 | some q =>
  rw[hq]at hb
  simp only[decide_eq_true_eq]at hb
  exact⟨qn5 (fun i p hi hp=>by have:=qn1 (l:=l) (id:=id) hi hp;omega) hq hb,q,rfl,hb⟩
def qn8 (l:List Pt) (id:Int):Pt×Int:=if qmq l≠0 then (Pt.zero,qmq l) else if hasB l id then (l.getD (lowB l id) Pt.zero,0) else (Pt.zero,6)
def qn9 (l:List Pt) (p:Pt):List Pt×Int :=
 if qmq l≠0 then ([],qmq l) else if p.chk≠0 then ([],8) else if hasB l p.id then ([],14) else if l.length=64 then ([],18) else (l.take (lowB l p.id)++p::l.drop (lowB l p.id),0)
def qna (l:List Pt) (id:Int):List Pt×Int :=
 if qmq l≠0 then ([],qmq l) else if hasB l id then (l.take (lowB l id)++l.drop (lowB l id+1),0) else ([],6)
def vi (l:List Int):List Value:=l.map (Value.int .i64)
end Go.Pel
namespace Go
open RowKit
def Row (w:World) (base:Nat) (e:TypeId) (size g cap:Nat) (cur:List Value):Prop :=
 base<=g/\w.heap[g]?=some (.cells cur.toArray e (0,0))/\cap<=maxLen/\cur.length=cap*size
section
variable {w:World} {base:Nat} {e:TypeId} {size g cap:Nat} {cur:List Value}
theorem Row.lt (h:Row w base e size g cap cur):g<w.heap.size:=(Array.getElem?_eq_some_iff.1 h.2.1).1
theorem Row.len (h:Row w base e size g cap cur):cur.length=cap*size:=h.2.2.2
theorem Row.own (h:Row w base e size g cap cur) {n:Nat} (hn:n<=cap):Own w base e size (some ⟨g,0,none⟩) n cap (cur.take (n*size)) :=
 ⟨by rw[List.length_take,h.len];exact Nat.min_eq_left (Nat.mul_le_mul_right _ hn),.inr ⟨g,cap,cur.toArray,rfl,h.1,h.2.1,hn,h.2.2.1,by simpa using h.len,by simp⟩⟩
theorem Own.row {A:Option Addr} {n c:Nat} {xs:List Value} (h:Own w base e size A n c xs):(A=none/\n=0/\c=0/\xs=[]) ∨ ∃ g cur,A=some ⟨g,0,none⟩/\Row w base e size g c cur/\n<=c/\cur.take (n*size)=xs:=by
 rcases h.2 with⟨hv,hn⟩ | ⟨g,cap,cur,hv,hb,hg,hnc,hm,hs,ht⟩
 ·injection hv with h1 h2 h3
  refine .inl ⟨h1,hn,h3,List.eq_nil_of_length_eq_zero ?_⟩
  rw[h.1,hn,Nat.zero_mul]
 ·injection hv with h1 h2 h3
  subst h1 h3
  exact .inr ⟨g,cur.toList,rfl,⟨hb,by simpa using hg,hm,by simpa using hs⟩,hnc,ht⟩
theorem Row.cell (h:Row w base e size g cap cur) {j:Nat} {u:Value} (hu:cur[j]?=some u):w.cell? ⟨g,j,none⟩=some u:=by
 simp[World.cell?,h.2.1,hu]
theorem Row.frozen (h:Row w base e size g cap cur) (j:Nat):w.frozen? ⟨g,j,none⟩=false:=by
 simp[World.frozen?,h.2.1]
theorem Row.sl (h:Row w base e size g cap cur) {i n c:Nat} {xs:List Value} (hi:i+n<=cap) (hnc:n<=c) (hx:(cur.drop (i*size)).take (n*size)=xs):Sl w size (some ⟨g,i*size,none⟩) n c xs:=by
 have hle:i*size+n*size<=cap*size:=by rw[← Nat.add_mul];exact Nat.mul_le_mul_right _ hi
 refine⟨hnc,by rw[← hx,List.length_take,List.length_drop,h.len];omega,fun _=>⟨g,_,rfl,h.lt,fun j u hu=>h.cell ?_⟩⟩
 rw[← hx,List.getElem?_take]at hu
 split at hu
 ·rwa[List.getElem?_drop]at hu
 ·cases hu
theorem Row.set (h:Row w base e size g cap cur) {cur':List Value} (hs:cur'.length=cur.length):Row (w.setRow g cur'.toArray) base e size g cap cur' :=
 ⟨h.1,setRow_heap w g _ _ e _ h.2.1,h.2.2.1,by rw[hs];exact h.len⟩
theorem Row.bel {w':World} (h:Row w base e size g cap cur) (hb:Bel w w'):Row w' base e size g cap cur:=⟨h.1,by rw[hb.block g h.lt];exact h.2.1,h.2.2⟩
theorem Row.base_le {base':Nat} (h:Row w base e size g cap cur) (hb:base'<=base):Row w base' e size g cap cur:=⟨Nat.le_trans hb h.1,h.2⟩
end
section
variable {P:Program} {ops:Array Oper} {rest:List Oper} {o:Oper} {a:Act} {Q:Exit->Act->World->Prop}
end
end Go
namespace Go.Tx
open Go Go.Pel
def ofP (p:Int×Int×Int×Unit):Pt:=⟨p.1,p.2.1,p.2.2.1⟩
def toP (p:Pt):Int×Int×Int×Unit:=(p.id,p.a,p.b,())
def toI (n:Int):Int×Unit:=(n,())
abbrev RP:Row:=.int .i64 (.int .i64 (.int .i64 .nil))
abbrev RI:Row:=.int .i64 .nil
def qnm:(τ:Row)->den τ->List Value
 | .nil,_=>[]
 | .int k r,x=>.int k x.1::qnm r x.2
 | .bool r,x=>.bool x.1::qnm r x.2
 | .sl _ r,x=>qnm r x.2
def qnn (τ:Row):List (den τ)->List Value
 | []=>[]
 | x::xs=>qnm τ x++qnn τ xs
abbrev TP:Type:=Int×Int×Int×Unit
abbrev TI1:Type:=Int×Unit
theorem qno (l:List TP):qnn RP l=vp (l.map ofP):=by
 induction l with
 | nil=>rfl
 | cons p l ih=>show qnm RP p++qnn RP l=vp (ofP p::l.map ofP);rw[ih];rfl
theorem qnp (l:List TI1):qnn RI l=vi (l.map fun x=>x.1):=by
 induction l with
 | nil=>rfl
 | cons p l ih=>show qnm RI p++qnn RI l=vi (p.1::l.map fun x=>x.1);rw[ih];rfl
theorem qnq:∀ (τ:Row),qdu τ=true->∀ x:den τ,(qnm τ x).length=τ.size
 | .nil,_,_=>rfl
 | .int _ r,h,x=>by rw[qnm,List.length_cons,qnq r h,Row.size]
 | .bool r,h,x=>by rw[qnm,List.length_cons,qnq r h,Row.size]
 | .sl _ r,h,_=>by cases h
theorem qnr {τ:Row} (h:qdu τ=true):∀ xs:List (den τ),(qnn τ xs).length=xs.length*τ.size
 | []=>by simp[qnn]
 | x::xs=>by rw[qnn,List.length_append,qnq τ h,qnr h xs,List.length_cons,Nat.succ_mul];omega
theorem qns {η:Emb}:∀ (τ:Row),qdu τ=true->∀ x:den τ,VRs η (split τ x) (qnm τ x)
 | .nil,_,_=>VRs.nil
 | .int _ r,h,x=>VRs.cons (.int _ _) (qns r h x.2)
 | .bool r,h,x=>VRs.cons (.bool _) (qns r h x.2)
 | .sl _ r,h,_=>by cases h
theorem qnt {η:Emb} {τ:Row} (h:qdu τ=true):∀ xs:List (den τ),VRs η (flat τ xs) (qnn τ xs)
 | []=>VRs.nil
 | x::xs=>(qns τ h x).append (qnt h xs)
theorem qnu {φ:Nat->Option Obj} {w:World} (hφ:∀ k ob,φ k=some ob->w.heap[k]?=some ob) {b:Nat}:∀ (τ:Row),qdu τ=true->∀ (x:den τ) (o:Nat),RowF φ τ x b o->∀ (j:Nat) u,(qnm τ x)[j]?=some u->w.cell? ⟨b,o+j,none⟩=some u
 | .nil,_,_,_,_,j,u,hu=>by simp[qnm]at hu
 | .int k r, h, x, o, hr, j, u, hu => by
  cases j with
  | zero =>
   simp only[qnm,List.getElem?_cons_zero,Option.some.injEq]at hu;subst hu
   obtain⟨ob,h1,h2⟩:=hr.1
   rw[Nat.add_zero,qg,hφ b ob h1];exact h2
  | succ j=>have:=qnu hφ r h x.2 (o+1) hr.2 j u (by simpa [qnm] using hu);rwa[show o+1+j=o+(j+1) by omega]at this
 | .bool r, h, x, o, hr, j, u, hu => by
  cases j with
  | zero =>
   simp only[qnm,List.getElem?_cons_zero,Option.some.injEq]at hu;subst hu
   obtain⟨ob,h1,h2⟩:=hr.1
   rw[Nat.add_zero,qg,hφ b ob h1];exact h2
  | succ j=>have:=qnu hφ r h x.2 (o+1) hr.2 j u (by simpa [qnm] using hu);rwa[show o+1+j=o+(j+1) by omega]at this
 | .sl _ r,h,_,_,_,_,_,_=>by cases h
theorem qnv {τ:Row} (h:qdu τ=true) (hs:0<τ.size) (xs:List (den τ)) (j:Nat) (hj:j<xs.length*τ.size):∃ x,xs[j/τ.size]?=some x/\(qnn τ xs)[j]?=(qnm τ x)[j%τ.size]?:=by
 induction xs generalizing j with
 | nil=>simp at hj
 | cons y ys ih =>
  rw[qnn]
  have hl:=qnq τ h y
  rcases Nat.lt_or_ge j τ.size with hlt | hge
  ·refine⟨y,by rw[Nat.div_eq_of_lt hlt];rfl,?_⟩
   rw[List.getElem?_append_left (by omega),Nat.mod_eq_of_lt hlt]
  ·rw[List.length_cons,Nat.succ_mul]at hj
   obtain⟨x,h1,h2⟩:=ih (j-τ.size) (by omega)
   have e1:j/τ.size=(j-τ.size)/τ.size+1:=by
    conv=>lhs;rw[show j=(j-τ.size)+τ.size by omega,Nat.add_div_right _ hs]
   have e2:j%τ.size=(j-τ.size)%τ.size:=by
    conv=>lhs;rw[show j=(j-τ.size)+τ.size by omega,Nat.add_mod_right]
   exact⟨x,by rw[e1,List.getElem?_cons_succ];exact h1,by rw[List.getElem?_append_right (by omega),hl,h2,e2]⟩
theorem qnw {φ:Nat->Option Obj} {w:World} (hφ:∀ k ob,φ k=some ob->w.heap[k]?=some ob) {τ:Row} (h:qdu τ=true) (hs:0<τ.size) {xs:List (den τ)} {v:Value} (hv:VR (Emb.fro φ) (.fz τ xs) v):∃ A c,v=.slice A xs.length c/\Sl w τ.size A xs.length c (qnn τ xs)/\(A=none->c=0):=by
 cases hv with
 | fz hf =>
  obtain⟨A,c,rfl,h1,h0,h2⟩:=hf
  refine⟨A,c,rfl,⟨h1,qnr h xs,fun hn=>?_⟩,h0⟩
  obtain⟨b,o,rfl,hr0⟩:=h2 0 _ (q2w hn)
  refine⟨b,o,rfl,?_,fun j u hu=>?_⟩
  ·have hlen:=qnq τ h (q2v τ xs 0)
   obtain⟨u,hu⟩:∃ u,(qnm τ (q2v τ xs 0))[0]?=some u:=⟨_,List.getElem?_eq_getElem (by omega)⟩
   have:=qnu hφ τ h _ _ hr0 0 u hu
   unfold World.cell? at this
   cases hb:w.heap[b]? with
   | none=>rw[show w.heap[(⟨b,o+0*τ.size+0,none⟩:Addr).block]?=w.heap[b]? from rfl,hb]at this;cases this
   | some ob=>exact (Array.getElem?_eq_some_iff.1 hb).1
  ·have hj:j<xs.length*τ.size:=by rw[← qnr h xs];exact (List.getElem?_eq_some_iff.1 hu).1
   obtain⟨x,h3,h4⟩:=qnv h hs xs j hj
   obtain⟨b',o',e1,e2⟩:=h2 _ x h3
   injection e1 with e1;injection e1 with e3 e4;subst e3 e4
   have:=qnu hφ τ h x _ e2 (j%τ.size) u (by rw[← h4];exact hu)
   rwa[Nat.add_assoc,Nat.mul_comm,Nat.div_add_mod]at this
theorem qnx {φ:Nat->Option Obj} {w:World} (hφ:∀ k ob,φ k=some ob->w.heap[k]?=some ob) {l:List TP} {v:Value} (hv:VR (Emb.fro φ) (.agg [.fz RP l]) v):∃ A c,v=.agg #[.slice A (l.map ofP).length c]/\Sl w 3 A (l.map ofP).length c (vp (l.map ofP))/\(A=none->c=0):=by
 cases hv with
 | agg hl hh =>
  obtain⟨u,rfl,hu⟩:=vrs1 ⟨hl,hh⟩
  obtain⟨A,c,rfl,h1,h2⟩:=qnw hφ (τ:=RP) rfl (by decide) hu
  have e1:(l.map ofP).length=l.length:=List.length_map ofP
  have h3:Sl w 3 A l.length c (vp (l.map ofP)):=by rw[← qno l];exact h1
  exact⟨A,c,by rw[e1];rfl,by rw[e1];exact h3,h2⟩
theorem qny {φ:Nat->Option Obj} {w:World} (hφ:∀ k ob,φ k=some ob->w.heap[k]?=some ob) {l:List TI1} {v:Value} (hv:VR (Emb.fro φ) (.fz RI l) v):∃ A c,v=.slice A (l.map fun x=>x.1).length c/\Sl w 1 A (l.map fun x=>x.1).length c (vi (l.map fun x=>x.1))/\(A=none->c=0):=by
 obtain⟨A,c,rfl,h1,h2⟩:=qnw hφ (τ:=RI) rfl (by decide) hv
 have e1:(l.map fun x=>x.1).length=l.length:=List.length_map _
 have h3:Sl w 1 A l.length c (vi (l.map fun x=>x.1)):=by rw[← qnp l];exact h1
 exact⟨A,c,by rw[e1];rfl,by rw[e1];exact h3,h2⟩
theorem qnz {η:Emb} {p:den RP} {v:Value} (hv:VR η (.agg (split RP p)) v):v=.agg #[.int .i64 (ofP p).id,.int .i64 (ofP p).a,.int .i64 (ofP p).b]:=by
 cases hv with
 | agg hl hh =>
  obtain⟨u1,vs,rfl,h1,h2⟩:=VRs.uncons (c:=.int .i64 p.1) ⟨hl,hh⟩
  obtain⟨u2,vs,rfl,h3,h4⟩:=VRs.uncons (c:=.int .i64 p.2.1) h2
  obtain⟨u3,rfl,h5⟩:=vrs1 (c:=.int .i64 p.2.2.1) h4
  cases h1;cases h3;cases h5;rfl
theorem qo0 {η:Emb} {a b:Int} {v:Value} (hv:VR η (.agg [.int .i64 a,.int .i64 b]) v):v=.agg #[.int .i64 a,.int .i64 b]:=by
 cases hv with
 | agg hl hh =>
  obtain⟨u1,u2,rfl,h1,h2⟩:=vrs2 ⟨hl,hh⟩
  cases h1;cases h2;rfl
theorem qo1 {η:Emb} {k:IntKind} {a:Int} {v:Value} (hv:VR η (.int k a) v):v=.int k a:=by cases hv;rfl
theorem VR.tupL {η:Emb} {cs:List LV} {vs:List Value} (h:VRs η cs vs):VR η (.tup cs) (.tuple vs.toArray):=.tup h.1 h.2
theorem VR.aggL {η:Emb} {cs:List LV} {vs:List Value} (h:VRs η cs vs):VR η (.agg cs) (.agg vs.toArray):=.agg h.1 h.2
def qo3 (w:World) (φ:Nat->Option Obj) (er:LV×List Ob) (e:Ending) (w':World):Prop:=∃ v' η',e=.returned v'/\VR η' er.1 v'/\(∀ M,HR M η' (q8m er.2) w')/\Fr w (noK φ) (q8m er.2) η' w'
theorem qo4 {w:World} {φ:Nat->Option Obj} (hφ:∀ k ob,φ k=some ob->w.heap[k]?=some ob) {l:LV} {v:Value} (hv:VR (Emb.fro φ) l v) (y:Beyond):qo3 w φ (l,[]) (.returned v) (ext w y):=by
 have hb:=qai w y
 have h2:∀ k ob,φ k=some ob->(ext w y).heap[k]?=some ob:=fun k ob hk=>by rw[hb.block k (Array.getElem?_eq_some_iff.1 (hφ k ob hk)).1];exact hφ k ob hk
 exact⟨v,_,rfl,hv,qaa h2,hb.size,fun k hk _=>hb.block k hk,(fun k ⟨b,ob,L,h,_⟩=>by rw[q8p]at h;simp at h),fun _ _ h=>h,fun _ _ h=>.inl h,hb.os,hb.tape,hb.output,hb.mono,fun _ _ h=>h.elim⟩
theorem qo5 {w:World} {φ:Nat->Option Obj} (hφ:∀ k ob,φ k=some ob->w.heap[k]?=some ob) {τ:Row} (hp:qdu τ=true) {xs:List (den τ)} {n:Nat} (hn:xs.length=n) {A:Option Addr} {c:Nat} {e:TypeId} {y:Beyond} {vals:List Value} (ho:Own (ext w y) w.heap.size e τ.size A n c vals) (hvals:qnn τ xs=vals)
    {l:LV} {v:Value} (hv:∀ η:Emb,η.hdr 0=some (.slice A n c)->VR η l v):qo3 w φ (l,[.rows τ xs]) (.returned v) (ext w y):=by
  subst hn
  have hb:=qai w y
  have h2:∀ k ob,φ k=some ob->(ext w y).heap[k]?=some ob:=fun k ob hk=>by rw[hb.block k (Array.getElem?_eq_some_iff.1 (hφ k ob hk)).1];exact hφ k ob hk
  have hlt:∀ k ob,φ k=some ob->k<w.heap.size:=fun k ob hk=>(Array.getElem?_eq_some_iff.1 (hφ k ob hk)).1
  have get0:∀ (b:Nat) ob,(q8m [Ob.rows τ xs]).get b=some ob->b=0/\ob=.rows τ xs:=fun b ob h=>by
    rw[q8p]at h
    cases b with
    | zero=>simp at h;exact⟨rfl,h.symm⟩
    | succ b=>simp at h
  rcases Own.row ho with⟨rfl,hn,rfl,hx⟩ | ⟨g,cur,rfl,hrow,hnc,htake⟩
  · have hxs:xs=[]:=List.eq_nil_of_length_eq_zero hn
    subst hxs
    refine⟨v,⟨fun _=>none,fun b=>if b=0 then some (.slice none 0 0) else none,φ⟩,rfl,hv _ rfl,fun M=>⟨fun b hb1 _=>?_,fun b ob h=>?_,fun b ob h=>?_,fun b1 b2 o1 o2 L1 L2 _ _ h=>(by cases h),h2,fun k ⟨b,ob,L,_,h,_⟩=>(by cases h),fun b v h=>?_⟩,
      hb.size,fun k hk _=>hb.block k hk,fun k ⟨b,ob,L,_,h,_⟩=>(by cases h),fun _ _ h=>h,fun _ _ h=>.inl h,hb.os,hb.tape,hb.output,hb.mono,fun _ _ h=>h.elim⟩
    · have hb1':1<=b:=hb1
      exact⟨rfl,if_neg (by omega)⟩
    · obtain⟨rfl,_⟩:=get0 b ob h;exact Nat.zero_lt_one
    · obtain⟨rfl,rfl⟩:=get0 b ob h
      exact .none (A:=none) rfl rfl
    · simp only at h
      split at h
      · injection h with h;exact⟨_,_,_,h.symm⟩
      · cases h
  · have hg:(ext w y).heap[g]?=some (.cells cur.toArray e (0,0)):=hrow.2.1
    have hlen:=hrow.len
    have hlb:∀ (k:Nat),LB (q8m [Ob.rows τ xs]) ⟨fun b=>if b=0 then some ⟨g,0,c*τ.size⟩ else none,fun b=>if b=0 then some (.slice (some ⟨g,0,none⟩) xs.length c) else none,φ⟩ k->k=g:=fun k ⟨b,ob,L,hb1,h,hk⟩=>by
      obtain⟨rfl,_⟩:=get0 b ob hb1
      simp only[if_pos]at h
      injection h with h;subst h;exact hk.symm
    refine⟨v,⟨fun b=>if b=0 then some ⟨g,0,c*τ.size⟩ else none,fun b=>if b=0 then some (.slice (some ⟨g,0,none⟩) xs.length c) else none,φ⟩,rfl,hv _ rfl,fun M=>⟨fun b hb1 _=>?_,fun b ob h=>?_,fun b ob h=>?_,fun b1 b2 o1 o2 L1 L2 h1 h2 _ _ _=>?_,h2,fun k hk=>?_,fun b v h=>?_⟩,
      hb.size,fun k hk _=>hb.block k hk,fun k hk=>?_,fun _ _ h=>h,fun _ _ h=>.inl h,hb.os,hb.tape,hb.output,hb.mono,fun _ _ h=>h.elim⟩
    · have hb1':1<=b:=hb1
      exact⟨if_neg (by omega),if_neg (by omega)⟩
    · obtain⟨rfl,_⟩:=get0 b ob h;exact Nat.zero_lt_one
    · obtain⟨rfl,rfl⟩:=get0 b ob h
      refine .rows (L:=⟨g,0,c*τ.size⟩) (c:=c) rfl ⟨hrow.lt,?_,fun j _ hj=>⟨?_,hrow.frozen j⟩,fun j cc hc=>?_⟩ rfl hnc (by simp)
      · rw[qc];show 0+_<=c*τ.size;have:=Nat.mul_le_mul_right τ.size hnc;omega
      · have hj':j<cur.length:=by rw[hlen];exact hj
        have:=hrow.cell (List.getElem?_eq_getElem hj')
        rw[this];rfl
      · obtain⟨u,h3,h4⟩:=(qnt (η:=⟨fun b=>if b=0 then some ⟨g,0,c*τ.size⟩ else none,fun b=>if b=0 then some (.slice (some ⟨g,0,none⟩) xs.length c) else none,φ⟩) hp xs).get hc
        refine⟨u,?_,h4⟩
        rw[hvals,← htake,List.getElem?_take]at h3
        split at h3
        · have:=hrow.cell h3;simpa using this
        · cases h3
    · obtain⟨rfl,_⟩:=get0 b1 o1 h1
      obtain⟨rfl,_⟩:=get0 b2 o2 h2
      rfl
    · have hk:=hlb k hk
      subst hk
      show φ k=none
      cases hf:φ k with
      | none=>rfl
      | some ob=>have:=hlt k ob hf;have:=hrow.1;omega
    · simp only at h
      split at h
      · injection h with h;exact⟨_,_,_,h.symm⟩
      · cases h
    · have hk:=hlb k hk;subst hk;exact .inl hrow.1
theorem qo6 {P : Program} {S : Spec} (hb : ∃ fn c, P.funcs[S.g]? = some fn ∧ fn.body = some c ∧ ¬ fn.name = "runtime.NumGoroutine")
 (h:∀ x r,S.F x=some r->∀ (w:World) (φ:Nat->Option Obj) (vs:List Value),(∀ k ob,φ k=some ob->w.heap[k]?=some ob)->VRs (Emb.fro φ) (qa8 S.τs x) vs->Calls P S.g vs.toArray w (qo3 w φ (S.enc r))):COK P S:=⟨h,hb⟩
theorem qo7 {P : Program} {g : Nat} {fn : Func} (h1 : P.funcs[g]? = some fn) (h2 : fn.body.isSome = true) (h3 : (fn.name == "runtime.NumGoroutine") = false) : ∃ fn c, P.funcs[g]? = some fn ∧ fn.body = some c ∧ ¬ fn.name = "runtime.NumGoroutine" := by
 obtain⟨c,hc⟩:=Option.isSome_iff_exists.1 h2
 exact⟨fn,c,h1,hc,by simpa using h3⟩
end Go.Tx
namespace Go
open RowKit
section
variable {P:Program} {ops:Array Oper} {o:Oper} {a:Act} {K:Act->World->Prop} {Q:Exit->Act->World->Prop} {E:Prop}
end
section
variable {P:Program} {ops:Array Oper} {rest:List Oper} {o:Oper} {a:Act} {Q:Exit->Act->World->Prop}
end
section
variable {P:Program} {ops:Array Oper} {o:Oper} {a:Act} {K:Act->World->Prop} {Q:Exit->Act->World->Prop} {E:Prop}
end
structure Held (W:World) (b o:Nat) (v:Value):Prop where
 lt:b<W.heap.size
 eq:W.cell? ⟨b,o,none⟩=some v
 fr:W.frozen? ⟨b,o,none⟩=false
theorem Held.bel {W W':World} {b o:Nat} {v:Value} (h:Held W b o v) (hb:Bel W W'):Held W' b o v:=by
 obtain⟨x,rfl⟩:=ext_of hb
 exact⟨by rw[qae];have:=h.lt;omega,by rw[qdc _ _ _ _ h.lt];exact h.eq,by rw[qdd _ _ _ _ h.lt];exact h.fr⟩
theorem Held.new {W W':World} {cs:Array Value} {e:TypeId} {j:Nat} {v:Value} (hb:Bel (W.alloc (.cells cs e)) W') (hv:cs[j]?=some v):Held W' W.heap.size j v:=by
 have h:Held (W.alloc (.cells cs e)) W.heap.size j v:=⟨by simp,by simp[go_sem,hv],by simp[go_sem]⟩
 exact h.bel hb
theorem qoi {w W':World} {B:Nat} {e:TypeId} {size n c:Nat} {A:Option Addr} {xs:List Value} (h:∃ y,W'=ext w y/\Own (ext w y) B e size A n c xs):∃ y,W'=ext w y:=let ⟨y,hy,_⟩:=h;⟨y,hy⟩
theorem qoj {w W':World} {B:Nat} {e:TypeId} {size n c:Nat} {A:Option Addr} {xs:List Value} (h:∃ y,W'=ext w y/\Own (ext w y) B e size A n c xs):Own W' B e size A n c xs:=by
 obtain⟨y,rfl,h⟩:=h;exact h
structure Apart (g:Nat) (W W':World):Prop where
 os:W'.os=W.os
 tape:W'.tape=W.tape
 output:W'.output=W.output
 size:W'.heap.size=W.heap.size
 drawn:W.drawn<=W'.drawn
 block:∀ b,b≠g->W'.heap[b]?=W.heap[b]?
theorem Apart.refl (g:Nat) (W:World):Apart g W W:=⟨rfl,rfl,rfl,rfl,Nat.le_refl _,fun _ _=>rfl⟩
theorem Apart.trans {g:Nat} {W W1 W2:World} (h:Apart g W W1) (k:Apart g W1 W2):Apart g W W2 :=
 ⟨k.os.trans h.os,k.tape.trans h.tape,k.output.trans h.output,k.size.trans h.size,Nat.le_trans h.drawn k.drawn,fun b hb=>(k.block b hb).trans (h.block b hb)⟩
theorem Apart.setCell {g:Nat} {W W1:World} (h:Apart g W W1) (o:Nat) (u:Value):Apart g W (W1.setCell ⟨g,o,none⟩ u) :=
 h.trans ⟨rfl,rfl,rfl,by simp[World.setCell],Nat.le_refl _,fun b hb=>by unfold World.setCell;simp only[Array.getElem?_modify,if_neg (Ne.symm hb)]⟩
theorem Apart.bel {g:Nat} {w W W1:World} (h:Apart g W W1) (hb:Bel w W) (hg:w.heap.size<=g):Bel w W1 :=
 ⟨⟨h.os.trans hb.os,h.tape.trans hb.tape,h.output.trans hb.output,by rw[h.size];exact hb.size,fun k hk=>(h.block k (by omega)).trans (hb.block k hk)⟩,Nat.le_trans hb.mono h.drawn⟩
theorem Held.apart {g:Nat} {W W':World} {b o:Nat} {v:Value} (h:Held W b o v) (ha:Apart g W W') (hne:b≠g):Held W' b o v :=
 ⟨by rw[ha.size];exact h.lt,by have:=h.eq;unfold World.cell? at this ⊢;rw[ha.block b hne];exact this,by have:=h.fr;unfold World.frozen? at this ⊢;rw[ha.block b hne];exact this⟩
theorem Sl.apart {g:Nat} {W W':World} {size n c:Nat} {A:Option Addr} {xs:List Value} (h:Sl W size A n c xs) (ha:Apart g W W') (hne:∀ b o,A=some ⟨b,o,none⟩->b≠g):Sl W' size A n c xs :=
 ⟨h.1,h.2.1,fun hn=>by
  obtain⟨b,o,hA,hb,hc⟩:=h.2.2 hn
  refine⟨b,o,hA,by rw[ha.size];exact hb,fun j u hu=>?_⟩
  have h1:=hc j u hu
  unfold World.cell? at h1 ⊢
  rw[ha.block b (hne b o hA)];exact h1⟩
theorem Own.ne {W:World} {B:Nat} {e:TypeId} {size n c:Nat} {A:Option Addr} {xs:List Value} (h:Own W B e size A n c xs) {g:Nat} (hg:g<B):∀ b o,A=some ⟨b,o,none⟩->b≠g:=by
 intro b o hA
 rcases h.row with⟨h0,_⟩ | ⟨g',cur,h0,hr,_⟩
 ·rw[hA]at h0;cases h0
 ·have e1:b=g':=by rw[hA]at h0;injection h0 with h0;injection h0
  have:=hr.1
  omega
theorem Own.ats {W:World} {B:Nat} {e:TypeId} {size n c g:Nat} {xs:List Value} (h:Own W B e size (some ⟨g,0,none⟩) n c xs):B<=g/\g<W.heap.size:=by
 rcases h.row with⟨h0,_⟩ | ⟨g',cur,h0,hr,_⟩
 ·cases h0
 ·have e1:g=g':=by injection h0 with h0;injection h0
  subst e1
  exact⟨hr.1,hr.lt⟩
theorem Own.shape {W:World} {B:Nat} {e:TypeId} {size n c:Nat} {A:Option Addr} {xs:List Value} (h:Own W B e size A n c xs):(A=none/\n=0) ∨ ∃ g,A=some ⟨g,0,none⟩/\B<=g/\g<W.heap.size:=by
 rcases h.row with⟨h0,h1,_⟩ | ⟨g',cur,h0,hr,_⟩
 ·exact .inl ⟨h0,h1⟩
 ·exact .inr ⟨g',h0,hr.1,hr.lt⟩
structure Box (W:World) (b:Nat) (cs:Array Value):Prop where
 lt:b<W.heap.size
 eq:∀ (j:Nat) (v:Value),cs[j]?=some v->W.cell? ⟨b,j,none⟩=some v
 fr:∀ (j:Nat),W.frozen? ⟨b,j,none⟩=false
theorem Box.bel {W W':World} {b:Nat} {cs:Array Value} (h:Box W b cs) (hb:Bel W W'):Box W' b cs:=by
 obtain⟨x,rfl⟩:=ext_of hb
 exact⟨by rw[qae];have:=h.lt;omega,fun j v hv=>by rw[qdc _ _ _ _ h.lt];exact h.eq j v hv,fun j=>by rw[qdd _ _ _ _ h.lt];exact h.fr j⟩
theorem Box.new {W W':World} {cs:Array Value} {e:TypeId} (hb:Bel (W.alloc (.cells cs e)) W') {b:Nat} (hbk:b=W.heap.size):Box W' b cs:=by
 subst hbk
 have h:Box (W.alloc (.cells cs e)) W.heap.size cs:=⟨by simp,fun j v hv=>by simp[go_sem,hv],fun j=>by simp[go_sem]⟩
 exact h.bel hb
end Go