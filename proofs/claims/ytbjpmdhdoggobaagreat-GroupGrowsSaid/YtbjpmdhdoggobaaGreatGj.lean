/- Walks of the references; the orders agree; examples. -/
import Derived.Test.YtbjpmdhdoggobaaGreatRows
import Derived.ProofKit
import Derived.OpenShut
import Derived.ShutString
import Derived.ChangeOld
import Derived.Deep.Slices
import Derived.Test.YtbjpmdhdoggobaaGreatGi
set_option linter.unusedSimpArgs false
set_option linter.unusedVariables false
namespace Go.Proofs.YtbjpmdhdoggobaaGreat
open Go Go.Tx Go.Pel
structure okQ (n dd:Int):Prop where
  b1:i64B n=true
  b2:i64B dd=true
  ok:qdm n dd=0
end Go.Proofs.YtbjpmdhdoggobaaGreat

namespace Go.Proofs.YtbjpmdhdoggobaaGreat
open Go Go.Tx Go.Pel
def q3nj (l:List T3):Prop:=l.length≤1000∧(l.length≤64→l.length≤16)
theorem q3nk (d:Nat) (l:List T3):∃ g,q2wj d ((l,()),())=some g∧(g=false→q3nj l):=by
  simp only [q2wj,q2w7,q2wd,q2wh,Dt.eval]
  by_cases h1:(l.length:Int) > 16
  · rw [decide_eq_true h1, cond_true]
    by_cases h2:(l.length:Int)≤64
    · rw [decide_eq_true h2, cond_true]
      exact ⟨true,rfl,fun h=>by cases h⟩
    · rw [decide_eq_false h2, cond_false]
      refine ⟨_,rfl,fun h=>?_⟩
      have:=of_decide_eq_false h
      exact ⟨by omega,by omega⟩
  · rw [decide_eq_false h1, cond_false]
    refine ⟨_,rfl,fun h=>?_⟩
    have:=of_decide_eq_false h
    exact ⟨by omega,by omega⟩
end Go.Proofs.YtbjpmdhdoggobaaGreat

namespace Go.Proofs.YtbjpmdhdoggobaaGreat
open Go Go.Tx Go.Pel
def fstI {α:Type} (p:α→Bool):List α→Nat→Int
  | [],_=>-1
  | x :: r,k=>if p x=true then (k:Int) else fstI p r (k+1)
theorem q3nq {α:Type} {p:α→Bool}:∀ (l:List α) (k:Nat),decide (fstI p l k≥0)=l.any p
  | [],_=>rfl
  | x :: r, k => by
    unfold fstI
    rw [List.any_cons]
    cases h:p x with
    | true=>rw [if_pos rfl,Bool.true_or];exact decide_eq_true (by omega)
    | false=>rw [if_neg (by simp),Bool.false_or];exact q3nq r (k+1)
def hasI (id:Int) (g:List Di):Bool:=g.any fun x=>id == x.1
def inV (gs:List DLiE) (id:Int):Int:=fstI (fun g=>hasI id g.1) gs 0
theorem q3nr (d:Nat) (id:Int) {L:List Di} (hl:L.length≤1000):∀ (f k:Nat),L.length - k<f→k≤L.length→iter (q25t d) f (L,id,(L.length:Int),(k:Int))=some (fstI (fun x:Di=>id == x.1) (L.drop k) k)
  | 0,k,hf,_=>by omega
  | f + 1, k, hf, hk => by
    have ih:=q3nr d id hl f (k+1)
    rw [iter]
    revert ih
    generalize iter (q25t d) f=self
    intro ih
    unfold q25t
    by_cases hlt:k<L.length
    · obtain ⟨x, hx⟩ : ∃ x, L[k]? = some x := ⟨_, List.getElem?_eq_getElem hlt⟩
      rw [q3fw hx]
      unfold fstI
      cases hc:(id == x.1) with
      | true=>simp only [q25b,q25f,q25j,q25n,q25p,Dt.eval,q3fu hlt,cond_true,q3ft hlt,q3fs hx,hc,if_true]
      | false =>
        simp only [q25b,q25f,q25j,q25n,q25p,Dt.eval,q3fu hlt,cond_true,cond_false,q3ft hlt,q3fs hx,hc,Bool.false_eq_true,if_false,q3fr (show k<1000000 by omega)]
        exact ih (by omega) (by omega)
    · rw [List.drop_eq_nil_of_le (by omega)]
      simp only [q25b,q25f,q25j,q25n,q25p,q25r,Dt.eval,q3fv hlt,cond_false,fstI]
theorem q3ns (d:Nat) (hd:5000≤d) (id:Int) {L:List Di} (hl:L.length≤1000):q26c d ((L,()),(id,()),())=some (hasI id L):=by
  have e:=q3nr d id hl d 0 (by omega) (Nat.zero_le _)
  rw [List.drop_zero] at e
  have e1:q25u d ((L,()),(id,()),())=some (fstI (fun x:Di=>id == x.1) L 0):=by
    simp only [q25u,q24z,q253,q257,Dt.eval]
    exact e
  simp only [q26c,q262,q266,q26a,Dt.eval,e1,q3nq]
  rfl
theorem q3nt (d:Nat) (hd:5000≤d) (id:Int) {L:List DLiE} (hl:L.length≤1000) (hg:∀ g∈L,g.1.length≤1000):∀ (f k:Nat),L.length - k<f→k≤L.length→iter (q27w d) f (L,(id,()),(L.length:Int),(k:Int))=some (fstI (fun g:DLiE=>hasI id g.1) (L.drop k) k)
  | 0,k,hf,_=>by omega
  | f + 1, k, hf, hk => by
    have ih:=q3nt d hd id hl hg f (k+1)
    rw [iter]
    revert ih
    generalize iter (q27w d) f=self
    intro ih
    unfold q27w
    by_cases hlt:k<L.length
    · obtain ⟨x, hx⟩ : ∃ x, L[k]? = some x := ⟨_, List.getElem?_eq_getElem hlt⟩
      have e0:=q3ns d hd id (hg x (List.mem_of_getElem? hx))
      have e1:q26u d ((x.1,()),(id,()),())=some (hasI id x.1):=by simp only [q26u,q26k,q26o,q26s,Dt.eval,e0]
      rw [q3fw hx]
      unfold fstI
      cases hc:hasI id x.1 with
      | true =>
        rw [hc] at e1
        simp only [q27e,q27i,q27m,q27q,q27s,Dt.eval,q272,q3fu hlt,cond_true,q3ft hlt,q3fs hx,e1,if_true]
      | false =>
        rw [hc] at e1
        simp only [q27e,q27i,q27m,q27q,q27s,Dt.eval,q272,q3fu hlt,cond_true,cond_false,q3ft hlt,q3fs hx,e1,Bool.false_eq_true,if_false,q3fr (show k<1000000 by omega)]
        exact ih (by omega) (by omega)
    · rw [List.drop_eq_nil_of_le (by omega)]
      simp only [q27e,q27i,q27m,q27q,q27s,q27u,Dt.eval,q3fv hlt,cond_false,fstI]
theorem q3nu (d:Nat) (hd:5000≤d) (id:Int) {L:List DLiE} (hl:L.length≤1000) (hg:∀ g∈L,g.1.length≤1000):q27x d ((L,()),((id,()),()),())=some (inV L id):=by
  have e:=q3nt d hd id hl hg d 0 (by omega) (Nat.zero_le _)
  simp only [q27x,q272,q276,q27a,Dt.eval]
  exact e
theorem q3nv (d:Nat) (hd:5000≤d) (id:Int) {L:List DLiE} (hl:L.length≤1000) (hg:∀ g∈L,g.1.length≤1000):∀ (f k:Nat),L.length - k<f→k≤L.length→iter (q29h d) f (L,(id,()),(L.length:Int),(k:Int))=some (fstI (fun g:DLiE=>hasI id g.1) (L.drop k) k)
  | 0,k,hf,_=>by omega
  | f + 1, k, hf, hk => by
    have ih:=q3nv d hd id hl hg f (k+1)
    rw [iter]
    revert ih
    generalize iter (q29h d) f=self
    intro ih
    unfold q29h
    by_cases hlt:k<L.length
    · obtain ⟨x, hx⟩ : ∃ x, L[k]? = some x := ⟨_, List.getElem?_eq_getElem hlt⟩
      have e0:=q3ns d hd id (hg x (List.mem_of_getElem? hx))
      have e1:q28f d ((x.1,()),(id,()),())=some (hasI id x.1):=by simp only [q28f,q285,q289,q28d,Dt.eval,e0]
      rw [q3fw hx]
      unfold fstI
      cases hc:hasI id x.1 with
      | true =>
        rw [hc] at e1
        simp only [q28z,q293,q297,q29b,q29d,Dt.eval,q28n,q3fu hlt,cond_true,q3ft hlt,q3fs hx,e1,if_true]
      | false =>
        rw [hc] at e1
        simp only [q28z,q293,q297,q29b,q29d,Dt.eval,q28n,q3fu hlt,cond_true,cond_false,q3ft hlt,q3fs hx,e1,Bool.false_eq_true,if_false,q3fr (show k<1000000 by omega)]
        exact ih (by omega) (by omega)
    · rw [List.drop_eq_nil_of_le (by omega)]
      simp only [q28z,q293,q297,q29b,q29d,q29f,Dt.eval,q3fv hlt,cond_false,fstI]
theorem q3nw (d:Nat) (hd:5000≤d) (id:Int) {L:List DLiE} (hl:L.length≤1000) (hg:∀ g∈L,g.1.length≤1000):q29i d ((L,()),((id,()),()),())=some (inV L id):=by
  have e:=q3nv d hd id hl hg d 0 (by omega) (Nat.zero_le _)
  simp only [q29i,q28n,q28r,q28v,Dt.eval]
  exact e
theorem q3o0:∀ (r:List (Bool×Di)) (xs:List (List Di)) (y:List Di),(grp xs y r).flatten=xs.flatten++y++r.map Prod.snd
  | [],xs,y=>by unfold grp;simp
  | c :: r, xs, y => by
    unfold grp
    split
    · rw [q3o0 r];simp
    · rw [q3o0 r];simp
theorem q3o1:∀ (r:List (Bool×Di)) (xs:List (List Di)) (y:List Di),(∀ x∈xs,x ≠ [])→y ≠ []→∀ g∈grp xs y r,g ≠ []
  | [], xs, y, hx, hy => by
    unfold grp
    intro g hg
    rcases List.mem_append.1 hg with h | h
    · exact hx g h
    · rw [List.mem_singleton] at h;rw [h];exact hy
  | c :: r, xs, y, hx, hy => by
    unfold grp
    split
    · refine q3o1 r _ _ (fun x h => ?_) (by simp)
      rcases List.mem_append.1 h with h | h
      · exact hx x h
      · rw [List.mem_singleton] at h;rw [h];exact hy
    · exact q3o1 r _ _ hx (by simp)
theorem q3o2 {α β:Type}:∀ (xs:List α) (ys:List β),ys.length≤xs.length→(xs.zip ys).map Prod.snd=ys
  | _,[],_=>by simp
  | [],_ :: _,h=>by simp at h
  | x :: xs,y :: ys,h=>by rw [List.zip_cons_cons,List.map_cons,q3o2 xs ys (by simpa using h)]
theorem q3o3 {L:List Di} {G:List Dii} (a b:Int) (h:L.length≤G.length+1):(ofG L G a b).flatten=L:=by
  cases L with
  | nil=>rfl
  | cons x r =>
    show (grp [] [x] _).flatten=_
    rw [q3o0,q3o2 _ _ (by rw [List.length_map];simpa using h)]
    rfl
theorem q3o4 {L:List Di} {G:List Dii} (a b:Int):∀ g∈ofG L G a b,g ≠ []:=by
  cases L with
  | nil=>intro g hg;exact absurd hg (List.not_mem_nil)
  | cons x r=>exact q3o1 _ [] [x] (fun x h=>absurd h (List.not_mem_nil)) (by simp)
theorem q9 {α:Type}:∀ {xs:List (List α)},(∀ x∈xs,x ≠ [])→xs.length≤xs.flatten.length∧∀ x∈xs,x.length≤xs.flatten.length
  | [],_=>⟨Nat.le_refl _,fun x h=>absurd h (List.not_mem_nil)⟩
  | x :: xs, h => by
    obtain ⟨h1,h2⟩:=q9 (xs:=xs) fun y hy=>h y (List.mem_cons_of_mem _ hy)
    have hx:1≤x.length:=List.length_pos_iff.2 (h x (List.mem_cons_self ..))
    rw [List.flatten_cons,List.length_append,List.length_cons]
    refine ⟨by omega,fun y hy=>?_⟩
    rcases List.mem_cons.1 hy with rfl | hy
    · omega
    · have:=h2 y hy;omega
theorem q3o5 (l:List T3) (n dd a b:Int):(ofO l n dd a b).flatten=(ordT l n dd).map idU:=q3o3 a b (by rw [List.length_map,List.length_map,q3ms];omega)
theorem q3o6 (l:List T3) (n dd a b:Int):∀ g∈ofO l n dd a b,g ≠ []:=q3o4 a b
theorem q3o7 (l:List T3) (n dd a b:Int):(ofO l n dd a b).length≤l.length∧∀ g∈ofO l n dd a b,g.length≤l.length:=by
  have h:=q9 (q3o6 l n dd a b)
  rw [q3o5,List.length_map,q3lz] at h
  exact h
theorem q3o8 {gs:List (List Di)} {g:DLiE} (h:g∈ql (e:=Ri) gs):g.1∈gs:=by
  obtain ⟨x,h1,h2⟩:=List.mem_map.1 h
  rw [← h2];exact h1
theorem q3o9 {l:List T3} (hl:l.length≤1000) (n dd a b:Int):(ofW l n dd a b).1.length≤1000∧∀ g∈(ofW l n dd a b).1,g.1.length≤1000:=by
  have h:=q3o7 l n dd a b
  have h0:([]:List DLiE).length≤1000∧∀ g∈([]:List DLiE),g.1.length≤1000:=⟨Nat.zero_le _,fun g hg=>absurd hg (List.not_mem_nil)⟩
  unfold ofW
  (repeat' split)<;>first | exact h0 | skip
  refine ⟨?_,fun g hg=>?_⟩
  · exact Nat.le_trans (Nat.le_of_eq (qm (e:=Ri) (ofO l n dd a b))) (Nat.le_trans h.1 hl)
  · have := h.2 _ (q3o8 hg)
    omega
def togV (w:List DLiE×Int) (i j:Int):Bool×Int:=if w.2≠0 then (false,w.2) else if inV w.1 i<0∨inV w.1 j<0 then (false,6) else (inV w.1 i == inV w.1 j,0)
theorem q3oa (d:Nat) (hd:5000≤d) {l:List T3} (hl:l.length≤1000) {n dd a b:Int} (hn:i64B n=true) (hdd:i64B dd=true) (ha:i64B a=true) (hb:i64B b=true) (i j:Int):q2aq d ((l,()),(n,dd,()),(a,b,()),(i,()),(j,()),())=some (togV (ofW l n dd a b) i j):=by
  have e:=q3mz d hd hl hn hdd ha hb
  obtain ⟨h1,h2⟩:=q3o9 hl n dd a b
  unfold togV
  generalize ofW l n dd a b=w at *
  obtain ⟨gs,er⟩:=w
  have e1:=q3nu d hd i h1 h2
  have e2:=q3nw d hd j h1 h2
  dsimp only at *
  by_cases h:er=0
  · subst h
    rw [if_neg (by simp)]
    by_cases hi:inV gs i<0
    · rw [if_pos (.inl hi)]
      simp only [q2aq,q29q,q29w,q2a0,q2a4,q2a8,q2ac,q2ag,q2ak,q2am,q2ao,Dt.eval,e,show ((0:Int) != 0)=false from rfl,cond_false,e1,e2,decide_eq_true hi,cond_true]
    · by_cases hj : inV gs j < 0
      · rw [if_pos (.inr hj)]
        simp only [q2aq,q29q,q29w,q2a0,q2a4,q2a8,q2ac,q2ag,q2ak,q2am,q2ao,Dt.eval,e,show ((0:Int) != 0)=false from rfl,cond_false,e1,e2,decide_eq_false hi,decide_eq_true hj,cond_true]
      · rw [if_neg (by intro k; rcases k with k | k <;> contradiction)]
        simp only [q2aq,q29q,q29w,q2a0,q2a4,q2a8,q2ac,q2ag,q2ak,q2am,q2ao,Dt.eval,e,show ((0:Int) != 0)=false from rfl,cond_false,e1,e2,decide_eq_false hi,decide_eq_false hj]
  · rw [if_pos h]
    simp only [q2aq,q29q,q29w,q2a0,q2a4,q2a8,Dt.eval,e,show (er != 0)=true by simpa using h,cond_true]
def lrg (best:List Di):List DLiE→List Di
  | []=>best
  | g :: r=>if best.length<g.1.length then lrg g.1 r else lrg best r
def q3oc (w:List DLiE×Int):List Di×Int:=if w.2≠0 then ([],w.2) else match w.1 with | []=>([],42) | g :: r=>(lrg g.1 r,0)
theorem q3od (d:Nat) {L:List DLiE} (hl:L.length≤1000):∀ (f k:Nat) (best:List Di),L.length - k<f→k≤L.length→iter (q2cf d) f (best,L,(L.length:Int),(k:Int))=some (lrg best (L.drop k),0)
  | 0,k,best,hf,_=>by omega
  | f + 1, k, best, hf, hk => by
    have ih:=q3od d hl f (k+1)
    rw [iter]
    revert ih
    generalize iter (q2cf d) f=self
    intro ih
    unfold q2cf q2cc
    by_cases hlt:k<L.length
    · obtain ⟨x, hx⟩ : ∃ x, L[k]? = some x := ⟨_, List.getElem?_eq_getElem hlt⟩
      rw [q3fw hx]
      unfold lrg
      by_cases hc:best.length<x.1.length
      · have hc' : decide ((x.1.length : Int) > (best.length : Int)) = true := decide_eq_true (by omega)
        rw [if_pos hc]
        simp only [q2by,q2c2,q2c6,q2c8,q2ca,Dt.eval,q3fu hlt,cond_true,q3ft hlt,q3fs hx,hc',q3fr (show k<1000000 by omega)]
        exact ih _ (by omega) (by omega)
      · have hc' : decide ((x.1.length : Int) > (best.length : Int)) = false := decide_eq_false (by omega)
        rw [if_neg hc]
        simp only [q2by,q2c2,q2c6,q2c8,q2ca,Dt.eval,q3fu hlt,cond_true,cond_false,q3ft hlt,q3fs hx,hc',q3fr (show k<1000000 by omega)]
        exact ih _ (by omega) (by omega)
    · rw [List.drop_eq_nil_of_le (by omega)]
      simp only [q2by,q2c2,q2c6,q2c8,q2ca,q2cd,Dt.eval,q3fv hlt,cond_false,lrg]
theorem q3of (d:Nat) (hd:5000≤d) {l:List T3} (hl:l.length≤1000) {n dd a b:Int} (hn:i64B n=true) (hdd:i64B dd=true) (ha:i64B a=true) (hb:i64B b=true):q2cg d ((l,()),(n,dd,()),(a,b,()),())=some (q3oc (ofW l n dd a b)):=by
  have e:=q3mz d hd hl hn hdd ha hb
  obtain ⟨h1,h2⟩:=q3o9 hl n dd a b
  unfold q3oc
  generalize ofW l n dd a b=w at *
  obtain ⟨gs,er⟩:=w
  dsimp only at *
  by_cases h:er=0
  · subst h
    rw [if_neg (by simp)]
    cases gs with
    | nil=>simp only [q2cg,q2ay,q2b4,q2b8,q2bc,q2bg,q2bk,q2bm,Dt.eval,e,show ((0:Int) != 0)=false from rfl,cond_false,List.length_nil];rfl
    | cons g r =>
      have e2:=q3od d h1 d 0 g.1 (by omega) (Nat.zero_le _)
      rw [List.drop_zero] at e2
      have e3:lrg g.1 (g :: r)=lrg g.1 r:=by rw [lrg,if_neg (Nat.lt_irrefl _)]
      rw [e3] at e2
      have c0:(((g :: r).length:Int) == 0)=false:=by rw [beq_eq_false_iff_ne,List.length_cons];omega
      have c1:inB (0:Int) (g :: r).length=true:=q3ft (k:=0) (by rw [List.length_cons];omega)
      have c2:elt zLiE (g :: r) (0:Int).toNat=g:=rfl
      simp only [q2cg,q2ay,q2b4,q2b8,q2bc,q2bg,q2bk,q2bm,q2bq,q2bu,Dt.eval,e,show ((0:Int) != 0)=false from rfl,cond_false,c0,c1,cond_true,c2]
      exact e2
  · rw [if_pos h]
    simp only [q2cg,q2ay,q2b4,q2b8,q2bc,q2bg,Dt.eval,e,show (er != 0)=true by simpa using h,cond_true]
end Go.Proofs.YtbjpmdhdoggobaaGreat

namespace Go
open Go.ChangeShapes Go.WideShapes Go.ChangeAt Go.RowKit
section
variable {H:Type} {enc:TypeId×Value→H} {P:Program} {w:World} {base:Nat} {spare:Nat→Bool} {held:Bool}
theorem q3oo {t:TypeId} {fs:Array Field} {fuel:Nat} {cs:List Value} {x:DataW H×List MemPlace} (hs:P.underlying t=some (.struct fs)) (h:DataW.trod enc P w base spare held fuel t cs=some x)
    {i:Nat} {f:Field} (hf:fs[i]?=some f) {off n:Nat} {ft:TypeId} (ho:f.offset=off) (ht:f.type=ft) (hn:P.cellsOf ft=n):∃ m y,DataW.trod enc P w base spare held m ft ((cs.drop off).take n)=some y:=by
  obtain ⟨xs,m,_,_,_,hlen,hg⟩:=DataW.trod_struct hs h
  have h1:=hg i f hf
  subst ho ht hn
  have hi:i<xs.length:=by rw [hlen];exact (Array.getElem?_eq_some_iff.1 hf).1
  exact ⟨m,xs[i],by rw [h1,List.getElem?_eq_getElem hi]⟩
theorem q3op {t:TypeId} {k:IntKind} {fuel:Nat} {cs:List Value} {x:DataW H×List MemPlace} (ht:P.underlying t=some (.int k)) (h:DataW.trod enc P w base spare held fuel t cs=some x):∃ n,cs=[.int k n]∧(Lit.int k n).wf=true:=by
  obtain ⟨n,h1,_,h2⟩:=DataW.trod_int ht h;exact ⟨n,h1,h2⟩
theorem q3oq {n:Int} (h:(Lit.int .i64 n).wf=true):-9223372036854775808≤n∧n≤9223372036854775807:=bounds_i64 h
end
end Go
namespace Go.Proofs.YtbjpmdhdoggobaaGreat
open Go.ChangeShapes Go.WideShapes Go.ChangeAt Go.RowKit
theorem q3ou:ownKnob Tryz.prog.godebug=none:=by kernel_rfl
theorem q3ov:laidOutB Tryz.prog=true:=by kernel_rfl
end Go.Proofs.YtbjpmdhdoggobaaGreat

namespace Go
open Go.ChangeShapes Go.WideShapes Go.ChangeAt Go.RowKit Go.Deep
theorem q3ow {α:Type} {p:Nat→α→Prop}:∀ n:Nat,(∀ i,i<n→∃ v,p i v)→∃ l:List α,l.length=n∧∀ (i:Nat) (x:α),l[i]?=some x→p i x
  | 0,_=>⟨[],rfl,fun i x h=>by simp at h⟩
  | n + 1, h => by
    obtain ⟨l,hl,hp⟩:=q3ow n fun i hi=>h i (by omega)
    obtain ⟨v,hv⟩:=h n (by omega)
    refine ⟨l ++ [v],by simp [hl],fun i x hx=>?_⟩
    rcases Nat.lt_or_ge i n with hi | hi
    · rw [List.getElem?_append_left (by omega)] at hx;exact hp i x hx
    · rw [List.getElem?_append_right (by omega)] at hx
      have:i=n:=by
        have:=(List.getElem?_eq_some_iff.1 hx).1
        simp at this;omega
      subst this
      simp [hl] at hx
      subst hx;exact hv
theorem qd {α:Type} {cells:α→List Value} {k:Nat} (hk:∀ a,(cells a).length=k) (h0:0<k):∀ (l:List α) (j:Nat) (u:Value),(l.flatMap cells)[j]?=some u→∃ x,l[j / k]?=some x∧(cells x)[j % k]?=some u
  | [],j,u,h=>by simp at h
  | x :: l, j, u, h => by
    rw [List.flatMap_cons] at h
    rcases Nat.lt_or_ge j k with hj | hj
    · rw [List.getElem?_append_left (by rw [hk]; exact hj)] at h
      rw [Nat.div_eq_of_lt hj,Nat.mod_eq_of_lt hj]
      exact ⟨x,rfl,h⟩
    · rw [List.getElem?_append_right (by rw [hk]; exact hj), hk] at h
      obtain ⟨y,hy,hu⟩:=qd hk h0 l (j - k) u h
      obtain ⟨m,rfl⟩:∃ m,j=m+k:=⟨j - k,by omega⟩
      rw [Nat.add_sub_cancel] at hy hu
      rw [Nat.add_div_right _ h0,Nat.add_mod_right]
      exact ⟨y,by simpa using hy,hu⟩
theorem q9 {α:Type} {cells:α→List Value} {k:Nat} (hk:∀ a,(cells a).length=k) (l:List α):(l.flatMap cells).length=l.length*k:=by
  induction l with
  | nil=>simp
  | cons x l ih=>rw [List.flatMap_cons,List.length_append,ih,hk,List.length_cons,Nat.add_mul];omega
section
variable {H:Type} {enc:TypeId×Value→H} {P:Program} {w:World} {base:Nat} {held:Bool}
theorem q3ox {t e:TypeId} {fuel:Nat} {A:Option Addr} {n c:Nat} {x:DataW H×List MemPlace} (ht:P.underlying t=some (.slice e))
    (h:DataW.trod enc P w base (fun _=>true) held fuel t [Value.slice A n c]=some x):A=none→c=0:=by
  rcases open_slice ht h with ⟨hcs,_⟩ | ⟨a,len,cap,m,q,D,Pl,hcs,_⟩
  · simp only [List.cons.injEq, and_true] at hcs
    injection hcs with h1 h2 h3
    intro _;exact h3
  · simp only [List.cons.injEq, and_true] at hcs
    injection hcs with h1 h2 h3
    subst h1;intro h;cases h
theorem q3oy {α:Type} (cells:α→List Value) (ok:α→Prop) {t e:TypeId} {k fuel:Nat} {A:Option Addr} {n c:Nat} {x:DataW H×List MemPlace}
    (ht:P.underlying t=some (.slice e)) (hC:P.cellsOf e=k) (h0:0<k) (hk:∀ a,(cells a).length=k)
    (hR:∀ (m:Nat) (l:List Value) (y:DataW H×List MemPlace),DataW.trod enc P w base (fun _=>true) held m e l=some y→l.length=k→∃ a,l=cells a∧ok a)
    (h:DataW.trod enc P w base (fun _=>true) held fuel t [Value.slice A n c]=some x) :
    ∃ l:List α,l.length=n∧Sl w k A l.length c (l.flatMap cells)∧(∀ a∈l,ok a)∧(A=none→c=0)∧c≤maxLen:=by
  rcases open_slice ht h with ⟨hcs,_⟩ | ⟨a,len,cap,m,q,D,Pl,hcs,_,hl,hmx,hm,_,hi⟩
  · simp only [List.cons.injEq, and_true] at hcs
    injection hcs with h1 h2 h3
    subst h1 h2 h3
    exact ⟨[],rfl,Sl.nil_ _ _ _ _,(fun _ h=>by cases h),(fun _=>rfl),Nat.zero_le _⟩
  · simp only [List.cons.injEq, and_true] at hcs
    injection hcs with h1 h2 h3
    subst h1 h2 h3
    simp only [if_true] at hm
    subst hm
    obtain ⟨l,hll,hp⟩:=q3ow (α:=α) (p:=fun i v=>(∀ j u,(cells v)[j]?=some u→w.cell? (a.add (i*k+j))=some u)∧ok v) n (fun i hin=>by
      obtain ⟨cs',hc,ht'⟩:=hi i (by omega)
      rw [hC] at hc
      obtain ⟨_,hcl,hat⟩:=World.cells?_some hc
      obtain ⟨v,rfl,hv⟩:=hR _ _ _ ht' hcl
      refine ⟨v,fun j u hu=>?_,hv⟩
      have hj:j<k:=by rw [← hk v];exact (List.getElem?_eq_some_iff.1 hu).1
      rw [← Go.Deep.add_add,hat j hj,hu])
    refine ⟨l,hll,⟨by omega,by rw [q9 hk,hll],fun hn=>?_⟩,fun v hv=>?_,(fun h=>by cases h),hmx⟩
    · obtain ⟨v0, hv0⟩ : ∃ v, l[0]? = some v := ⟨_, List.getElem?_eq_getElem (by omega)⟩
      obtain ⟨u0,hu0⟩:∃ u,(cells v0)[0]?=some u:=⟨_,List.getElem?_eq_getElem (by rw [hk];exact h0)⟩
      have hc0:=(hp 0 v0 hv0).1 0 u0 hu0
      obtain ⟨b,o,spot⟩:=a
      have hspot:spot=none:=by simpa [Addr.add] using World.cell?_spot hc0
      subst hspot
      refine ⟨b,o,rfl,?_,fun j u hu=>?_⟩
      · have hb := World.block_lt_of_cell? w _ hc0
        simpa [Addr.add] using hb
      · obtain ⟨v, hv, huv⟩ := qd hk h0 l j u hu
        have h1:=(hp _ v hv).1 _ u huv
        have e0:j / k*k+j % k=j:=by rw [Nat.mul_comm];exact Nat.div_add_mod j k
        rw [e0] at h1
        have e1:(⟨b,o,none⟩:Addr).add j=⟨b,o+j,none⟩:=by
          unfold Addr.add;split
          · rename_i h0;rw [h0];rfl
          · rfl
        rw [e1] at h1;exact h1
    · obtain ⟨i, hi'⟩ := List.getElem?_of_mem hv
      exact (hp i v hi').2
end
end Go

namespace Go.Proofs.YtbjpmdhdoggobaaGreat
open Go.ChangeShapes Go.WideShapes Go.ChangeAt Go.RowKit Go.Pel Go.Deep
theorem q3oz {α:Type} (l:List α) (h:l.length=1):∃ a,l=[a]:=by
  match l,h with
  | [a],_=>exact ⟨a,rfl⟩
theorem q3p0 {α:Type} (l:List α) (h:l.length=2):∃ a b,l=[a,b]:=by
  match l,h with
  | [a,b],_=>exact ⟨a,b,rfl⟩
theorem q3p1 {α:Type} (l:List α) (h:l.length=3):∃ a b c,l=[a,b,c]:=by
  match l,h with
  | [a,b,c],_=>exact ⟨a,b,c,rfl⟩
section
variable {H:Type} {enc:TypeId×Value→H} {w:World} {base:Nat} {spare:Nat→Bool} {held:Bool}
theorem q3p2:Tryz.prog.cellsOf 3=1:=by kernel_rfl
theorem q3p3:Tryz.prog.cellsOf 2=1:=by kernel_rfl
theorem q3p4:Tryz.prog.cellsOf 72=3:=by kernel_rfl
theorem q3p5:Tryz.prog.cellsOf 24=1:=by kernel_rfl
theorem q3p6:Tryz.prog.cellsOf 22=1:=by kernel_rfl
theorem q3p7 {fuel:Nat} {l:List Value} {x:DataW H×List MemPlace} (h:DataW.trod enc Tryz.prog w base spare held fuel 72 l=some x) (hl:l.length=3) :
    ∃ p:Pt,l=[.int .i64 p.id,.int .i64 p.a,.int .i64 p.b]∧p.Fits:=by
  obtain ⟨c0,c1,c2,rfl⟩:=q3p1 l hl
  obtain ⟨m4,y4,h4⟩:=q3oo Tryz.underlying72 h (i:=0) rfl rfl rfl q3p2
  obtain ⟨m5,y5,h5⟩:=q3oo Tryz.underlying72 h (i:=1) rfl rfl rfl q3p3
  obtain ⟨m6,y6,h6⟩:=q3oo Tryz.underlying72 h (i:=2) rfl rfl rfl q3p3
  obtain ⟨i,e4,w4⟩:=q3op Tryz.underlying3 h4
  obtain ⟨a,e5,w5⟩:=q3op Tryz.underlying2 h5
  obtain ⟨b,e6,w6⟩:=q3op Tryz.underlying2 h6
  simp at e4 e5 e6
  subst e4 e5 e6
  exact ⟨⟨i,a,b⟩,rfl,⟨q3oq w4,q3oq w5,q3oq w6⟩⟩
theorem q3p8 (fuel:Nat) (l:List Value) (x:DataW H×List MemPlace) (h:DataW.trod enc Tryz.prog w base spare held fuel 72 l=some x) (hl:l.length=3):∃ p:Pt,l=p.cells∧p.Fits:=q3p7 h hl
theorem q3p9 {fuel:Nat} {l:List Value} {x:DataW H×List MemPlace} (h:DataW.trod enc Tryz.prog w base (fun _=>true) held fuel 24 l=some x) (hl:l.length=1) :
    ∃ (A:Option Addr) (c:Nat) (m:List Pt),l=[.slice A m.length c]∧Sl w 3 A m.length c (vp m)∧(A=none→c=0)∧∀ p∈m,p.Fits:=by
  obtain ⟨c0,rfl⟩:=q3oz l hl
  obtain ⟨m0,y0,h0⟩:=q3oo Tryz.underlying24 h (i:=0) rfl rfl rfl q3p6
  have h0':DataW.trod enc Tryz.prog w base (fun _=>true) held m0 22 [c0]=some y0:=by simpa using h0
  obtain ⟨A,n,c,rfl⟩:∃ A n c,c0=Value.slice A n c:=by
    rcases open_slice Tryz.underlying22 h0' with ⟨hcs,_⟩ | ⟨a,len,cap,m,q,D,Pl,hcs,_⟩
    · simp only [List.cons.injEq,and_true] at hcs;exact ⟨_,_,_,hcs⟩
    · simp only [List.cons.injEq,and_true] at hcs;exact ⟨_,_,_,hcs⟩
  have hn:=q3ox Tryz.underlying22 h0'
  obtain ⟨pts,rfl,hs,hok,_,_⟩:=q3oy Pt.cells Pt.Fits Tryz.underlying22 q3p4 (by decide) (fun _=>rfl) q3p8 h0'
  exact ⟨A,c,pts,rfl,hs,hn,hok⟩
theorem q3pa:Tryz.prog.cellsOf 26=2:=by kernel_rfl
theorem q3pb {fuel:Nat} {l:List Value} {x:DataW H×List MemPlace} (h:DataW.trod enc Tryz.prog w base spare held fuel 26 l=some x) (hl:l.length=2) :
    ∃ n d:Int,l=[.int .i64 n,.int .i64 d]∧(-9223372036854775808≤n∧n≤9223372036854775807)∧(-9223372036854775808≤d∧d≤9223372036854775807):=by
  obtain ⟨c0,c1,rfl⟩:=q3p0 l hl
  obtain ⟨m4,y4,h4⟩:=q3oo Tryz.underlying26 h (i:=0) rfl rfl rfl q3p3
  obtain ⟨m5,y5,h5⟩:=q3oo Tryz.underlying26 h (i:=1) rfl rfl rfl q3p3
  obtain ⟨n,e4,w4⟩:=q3op Tryz.underlying2 h4
  obtain ⟨d,e5,w5⟩:=q3op Tryz.underlying2 h5
  simp at e4 e5
  subst e4 e5
  exact ⟨n,d,rfl,q3oq w4,q3oq w5⟩
end
end Go.Proofs.YtbjpmdhdoggobaaGreat
