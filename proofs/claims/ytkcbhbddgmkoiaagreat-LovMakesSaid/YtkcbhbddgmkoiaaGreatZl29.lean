/- A drawn region, whatever its order: as XAll, and behind an -/
import Derived.Test.YtkcbhbddgmkoiaaGreatZl28
set_option linter.unusedSimpArgs false
set_option linter.unusedVariables false
namespace Go.Proofs.YtkcbhbddgmkoiaaGreat
open Go.RowKit
def Zai (R : List Nat) (att : Nat -> List Nat) : List Nat:=R.flatMap fun i=>i :: att i
def Zff (md : Region.Mode) (ops : Array Oper) (l : Array Bool) (i : Nat) : List Nat -> List Nat -> Bool
 | [],_=>true
 | u :: us,done=>(match ops[u]? with | some o=>o.dst.isSome | none=>false) && (Zaf md ops u).contains i && !l.getD u true && (Zaf md ops u).all (fun p=>p == i || done.contains p || l.getD p false || (Zaf md ops i).contains p) &&
     ((List.range ops.size).all fun j=>j == u || (j == i || done.contains j || l.getD j false || (Zaf md ops i).contains j) || (Zaf md ops j).contains u || (match ops[u]?,ops[j]? with | some ou,some oj=>ou.apart ops oj | _,_=>true)) && Zff md ops l i us (u :: done)
def Znz (md : Region.Mode) (ops : Array Oper) (att : Nat -> List Nat) : List Nat -> Array Bool -> Bool
 | [],_=>true
 | r :: rs,l=>!l.getD r true && (match ops[r]? with | some o=>o.dst.isSome | none=>false) && (Zaf md ops r).all (fun p=>l.getD p false) && Znz md ops att rs (Zan (r :: att r) l)
def Zq2 (md : Region.Mode) (ops : Array Oper) (R F : List Nat) (l : Array Bool) : Bool:=
 (List.range ops.size).all fun k=>F.contains k || l.getD k true || (Zaf md ops k).any (fun p=>!F.contains p && !l.getD p false) || (R.all fun r=>(clo md ops F.reverse (Zaf md ops k)).contains r)
def Zh0 (md : Region.Mode) (ops : Array Oper) (R : List Nat) (att : Nat -> List Nat) (l : Array Bool) : Bool:=
 Znz md ops att R l && Zq2 md ops R (Zai R att) l && Za2 ((Zai R att).map (Zak ops)) && decide (l.size = ops.size) && R.all (fun i=>Zff md ops l i (att i) []) && Region.noSelect ops
section
variable {P : Program} {ops : Array Oper} {Q : Exit -> Act -> World -> Prop} {md : Region.Mode} {L : List Nat} {S : World -> Prop}
def Zmk (P : Program) (ops : Array Oper) (Φ : Nat -> Value -> World -> Prop) (w : World) : List Nat -> Act -> Prop
 | [],_=>True
 | u :: us,a=>∃ o v,ops[u]? = some o /\ YieldsIf P ops (fun _=>True) o v a /\ Φ u v w /\ Zmk P ops Φ w us (a.put o.dst v)
theorem Zex {l : Array Bool} {i : Nat} (h : i < l.size) : (l.setIfInBounds i true).getD i false = true:=by
 rw [Array.getD_eq_getD_getElem?,Array.getElem?_setIfInBounds_self,if_pos h];rfl
theorem Za4 {us : List Nat} {l : Array Bool} {k : Nat} (h : l.getD k false = true) : (Zan us l).getD k false = true:=by
 induction us generalizing l with
 | nil=>exact h
 | cons u us ih=>exact ih (l:=l.setIfInBounds u true) (Zaa h)
theorem Zhx {us : List Nat} {l : Array Bool} {k : Nat} (hk : k ∈ us) (h : k < l.size) : (Zan us l).getD k false = true:=by
 induction us generalizing l with
 | nil=>cases hk
 | cons u us ih =>
  rcases List.mem_cons.1 hk with rfl | hk
  ·exact Za4 (us:=us) (Zex h)
  ·exact ih (l:=l.setIfInBounds u true) hk (by simp;exact h)
theorem Znr {Φ : Nat -> Value -> World -> Prop} {l0 : Array Bool} {i : Nat} {R : List Nat} {a0 : Act} {w : World} {F : Nat} (hns : Region.noSelect ops = true) (hnd : Za2 (R.map (Zak ops)) = true) (hiR : i ∈ R) :
    ∀ (us done : List Nat) (l : Array Bool) (ν : Nat -> Value),Zff md ops l0 i us done = true -> (∀ u ∈ us,u ∈ R) -> (∀ u ∈ us,u ∉ L) -> (∀ u ∈ us,l.getD u true = false) -> l.size = ops.size -> Za2 us = true ->
     (∀ p,l0.getD p false = true -> l.getD p false = true) -> l.getD i false = true -> (∀ p ∈ Zaf md ops i,l.getD p false = true) -> (∀ u ∈ done,l.getD u false = true) -> S w ->
     Zmk P ops Φ w us (Zap (R.map (Zak ops)) a0 ν) ->
     (∀ ν',(∀ k,(∀ u ∈ us,Zak ops u ≠ k) -> ν' k = ν k) -> (∀ u ∈ us,Φ u (ν' (Zak ops u)) w) -> Z8 P md ops (OnlyNormal Q) L S F (Zan us l) (Zap (R.map (Zak ops)) a0 ν') w) ->
     Z8 P md ops (OnlyNormal Q) L S (us.length + F) l (Zap (R.map (Zak ops)) a0 ν) w:=by
 intro us
 induction us with
 | nil =>
  intro done l ν _ _ _ _ _ _ _ _ _ _ _ _ h;rw [show ([] : List Nat).length + F = F by simp];exact h ν (fun _ _=>rfl) (fun u hu=>by cases hu)
 | cons u us ih =>
  intro done l ν hat hR hL hun hsz hndu hl0 hi hp hdone hS htr h;simp only [Zff,Bool.and_eq_true,List.all_eq_true] at hat;obtain ⟨⟨⟨⟨⟨h1,h2⟩,h3⟩,h4⟩,h5⟩,h6⟩:=hat;obtain ⟨o,v,ho,hy,hΦ,htr2⟩:=htr;obtain ⟨n1,n2⟩:=Zaz hndu;have husz : u < ops.size:=(Array.getElem?_eq_some_iff.1 ho).1;have hu0:=hun u (List.mem_cons_self ..)
  have hready : u ∈ Region.ready md ops l:=Zeu hu0 ho (fun p hp2=>by
   have h7:=h4 p hp2;simp only [Bool.or_eq_true,beq_iff_eq] at h7
   rcases h7 with ((h7 | h7) | h7) | h7
   ·rw [h7];exact hi
   ·exact hdone p (List.contains_iff_mem.1 h7)
   ·exact hl0 p h7
   ·exact hp p (List.contains_iff_mem.1 h7))
  have hdst : o.dst = some (Zak ops u):=by
   rw [ho] at h1;obtain ⟨d,hd⟩:=Option.isSome_iff_exists.1 h1;unfold Zak;rw [ho];simp only [hd,Option.getD_some]
  have hdn : Zak ops u ∈ R.map (Zak ops):=List.mem_map.2 ⟨u,hR u (List.mem_cons_self ..),rfl⟩;rw [List.length_cons,Nat.add_right_comm]
  refine Zgm ho (Region.noSelect_spec hns) (fun _ _ _ h=>(h : False).elim) (by
   cases hc : L.contains u with
   | false=>rfl
   | true=>exact absurd (List.contains_iff_mem.1 hc) (hL u (List.mem_cons_self ..))) _ l _ w (fun j oj hoj hju hjl hnw=>?_) hready hy (fun _=>hS) ?_
  ·have h7:=h5 j (List.mem_range.2 (Array.getElem?_eq_some_iff.1 hoj).1)
   simp only [Bool.or_eq_true,beq_iff_eq] at h7
   rcases h7 with ((h7 | h7) | h7) | h7
   ·exact absurd h7 hju
   ·exfalso
    have h8 : l.getD j false = true:=by
     rcases h7 with ((h7 | h7) | h7) | h7
     ·rw [h7];exact hi
     ·exact hdone j (List.contains_iff_mem.1 h7)
     ·exact hl0 j h7
     ·exact hp j (List.contains_iff_mem.1 h7)
    rw [Zc2 h8] at hjl
    cases hjl
   ·exfalso
    have h8:=List.contains_iff_mem.1 h7;unfold Zaf at h8;rw [hoj] at h8;obtain ⟨e,he,he2⟩:=List.mem_map.1 h8;rw [List.mem_filter] at he;exact hnw e (by simpa using he.1) he.2 he2
   ·rw [ho,hoj] at h7;exact h7
  ·rw [hdst,Zgw hdn hnd]
   refine ih (u :: done) (l.setIfInBounds u true) (upd ν (Zak ops u) v) h6 (fun x hx=>hR x (List.mem_cons_of_mem _ hx)) (fun x hx=>hL x (List.mem_cons_of_mem _ hx)) (fun x hx=>?_) (by simp;exact hsz) n2 (fun p hp2=>Zaa (hl0 p hp2)) (Zaa hi) (fun p hp2=>Zaa (hp p hp2)) (fun x hx=>?_) hS ?_ (fun ν' k1 k2=>?_)
   ·rw [Go.getD_set_ne true (fun e : u = x=>n1 (e ▸ hx))]
    exact hun x (List.mem_cons_of_mem _ hx)
   ·rcases List.mem_cons.1 hx with rfl | hx
    ·exact Zex (by omega)
    ·exact Zaa (hdone x hx)
   ·rw [hdst,Zgw hdn hnd] at htr2
    exact htr2
   ·refine h ν' (fun k hk=>?_) (fun x hx=>?_)
    ·rw [k1 k (fun x hx=>hk x (List.mem_cons_of_mem _ hx))]
     simp only [upd,if_neg (Ne.symm (hk u (List.mem_cons_self ..)))]
    ·rcases List.mem_cons.1 hx with rfl | hx
     ·have h9 : ∀ y ∈ us,Zak ops y ≠ Zak ops x:=fun y hy=>Zdu hnd (hR y (List.mem_cons_of_mem _ hy)) (hR x (List.mem_cons_self ..)) (fun e=>n1 (e ▸ hy))
      rw [k1 _ h9];simp only [upd,if_true];exact hΦ
     ·exact k2 x hx
theorem Zh7 {us : List Nat} {l : Array Bool} {k : Nat} (h : (Zan us l).getD k false = true) : k ∈ us \/ l.getD k false = true:=by
 induction us generalizing l with
 | nil=>exact .inr h
 | cons u us ih =>
  rcases ih (l:=l.setIfInBounds u true) h with h1 | h1
  ·exact .inl (List.mem_cons_of_mem _ h1)
  ·by_cases hk : u = k
   ·exact .inl (hk ▸ List.mem_cons_self ..)
   ·rw [Go.getD_set_ne false hk] at h1;exact .inr h1
theorem Zes {us : List Nat} {l : Array Bool} {k : Nat} (h : (Zan us l).getD k true = false) : l.getD k true = false:=by
 rw [Za7] at h
 split at h
 ·cases h
 ·exact h
theorem Zfu {att : Nat -> List Nat} : ∀ (R : List Nat) (l0 : Array Bool),Znz md ops att R l0 = true -> (∀ r ∈ R,l0.getD r true = false /\ ∃ o d,ops[r]? = some o /\ o.dst = some d) /\
      ∀ l : Array Bool,l.size = l0.size -> (∀ k,l0.getD k false = true -> l.getD k false = true) -> (∀ r ∈ R,l.getD r true = true -> ∀ u ∈ att r,l.getD u false = true) -> (∃ r ∈ R,l.getD r true = false) -> ∃ r ∈ R,l.getD r true = false /\ ∀ p ∈ Zaf md ops r,l.getD p false = true
 | [],_,_=>⟨fun r hr=>(by cases hr),fun l _ _ _ ⟨r,hr,_⟩=>(by cases hr)⟩
 | r :: R,l0,h=>by
  simp only [Znz,Bool.and_eq_true,Bool.not_eq_true',List.all_eq_true] at h;obtain ⟨⟨⟨h1,h2⟩,h3⟩,h4⟩:=h;obtain ⟨k1,k2⟩:=Zfu R _ h4;refine ⟨fun x hx=>?_,fun l hsz hl hat hu=>?_⟩
  ·rcases List.mem_cons.1 hx with rfl | hx
   ·refine ⟨h1,?_⟩
    cases ho : ops[x]? with
    | none=>rw [ho] at h2;cases h2
    | some o =>
     rw [ho] at h2;obtain ⟨d,hd⟩:=Option.isSome_iff_exists.1 h2;exact ⟨o,d,rfl,hd⟩
   ·obtain ⟨m1,m2⟩:=k1 x hx
    exact ⟨Zes m1,m2⟩
  ·by_cases hr : l.getD r true = false
   ·exact ⟨r,List.mem_cons_self ..,hr,fun p hp=>hl p (h3 p hp)⟩
   ·have hr2 : l.getD r true = true:=by simpa using hr
    have hrs : r < l0.size:=by
     rcases Nat.lt_or_ge r l0.size with h' | h'
     ·exact h'
     ·rw [Array.getD_eq_getD_getElem?,Array.getElem?_eq_none h'] at h1;cases h1
    have hrl : r < l.size:=by omega
    have hrf : l.getD r false = true:=by
     rw [Array.getD_eq_getD_getElem?,Array.getElem?_eq_getElem hrl] at hr2 ⊢;exact hr2
    obtain ⟨x,hx,hx2⟩:=k2 l (by rw [Zd2];exact hsz) (fun k hk=>by
     rcases Zh7 hk with h5 | h5
     ·rcases List.mem_cons.1 h5 with rfl | h5
      ·exact hrf
      ·exact hat r (List.mem_cons_self ..) hr2 k h5
     ·exact hl k h5) (fun y hy=>hat y (List.mem_cons_of_mem _ hy)) (by
     obtain ⟨y,hy,hy2⟩:=hu
     rcases List.mem_cons.1 hy with rfl | hy
     ·exact absurd hy2 hr
     ·exact ⟨y,hy,hy2⟩)
    exact ⟨x,List.mem_cons_of_mem _ hx,hx2⟩
theorem Zkq {R : List Nat} (hn : Za2 R = true) : ∀ (us : List Nat) (l : Array Bool),Za2 us = true -> (∀ u ∈ us,u ∈ R) -> (∀ u ∈ us,l.getD u true = false) -> left R (Zan us l) + us.length = left R l:=by
 intro us
 induction us with
 | nil=>intro l _ _ _;rfl
 | cons u us ih =>
  intro l h1 h2 h3;obtain ⟨n1,n2⟩:=Zaz h1;have h4:=Zh6 hn (h2 u (List.mem_cons_self ..)) (h3 u (List.mem_cons_self ..))
  have h5:=ih (l.setIfInBounds u true) n2 (fun x hx=>h2 x (List.mem_cons_of_mem _ hx)) (fun x hx=>by
   rw [Go.getD_set_ne true (fun e : u = x=>n1 (e ▸ hx))]
   exact h3 x (List.mem_cons_of_mem _ hx))
  show left R (Zan us (l.setIfInBounds u true)) + (us.length + 1) = _;omega
theorem Zc0 : ∀ {a b : List Nat},Za2 (a ++ b) = true -> Za2 b = true
 | [],_,h=>h
 | _ :: a,_,h=>Zc0 (a:=a) (Zaz h).2
theorem Zdb : ∀ {a b : List Nat},Za2 (a ++ b) = true -> Za2 a = true
 | [],_,_=>rfl
 | x :: a,b,h=>by
  obtain ⟨h1,h2⟩:=Zaz (x:=x) (l:=a ++ b) h;simp only [Za2,Bool.and_eq_true,Bool.not_eq_true'];refine ⟨?_,Zdb h2⟩
  cases hc : a.contains x with
  | false=>rfl
  | true=>exact absurd (List.mem_append_left _ (List.contains_iff_mem.1 hc)) h1
theorem Zg6 : ∀ {a b : List Nat},Za2 (a ++ b) = true -> ∀ x,x ∈ a -> x ∉ b
 | [],_,_,x,hx=>by cases hx
 | y :: a,b,h,x,hx=>by
  obtain ⟨h1,h2⟩:=Zaz (x:=y) (l:=a ++ b) h
  rcases List.mem_cons.1 hx with hx' | hx'
  ·intro hb;exact h1 (List.mem_append_right _ (hx' ▸ hb))
  ·exact Zg6 h2 x hx'
theorem Zl2 {att : Nat -> List Nat} : ∀ {R : List Nat},Za2 (Zai R att) = true -> ∀ r ∈ R,Za2 (r :: att r) = true /\ ∀ r' ∈ R,r' ≠ r -> ∀ x ∈ r :: att r,x ∉ r' :: att r'
 | [],_,r,hr=>by cases hr
 | y :: R,h,r,hr=>by
  have e : Zai (y :: R) att = (y :: att y) ++ Zai R att:=rfl;rw [e] at h;have h1:=Zdb h;have h2:=Zc0 h;have h3:=Zg6 h
  have hmem : ∀ z ∈ R,∀ x ∈ z :: att z,x ∈ Zai R att:=fun z hz x hx=>List.mem_flatMap.2 ⟨z,hz,hx⟩
  by_cases hry : r = y
  ·subst hry
   refine ⟨h1,fun r' hr' hne x hx hx2=>?_⟩
   rcases List.mem_cons.1 hr' with h4 | h4
   ·exact hne h4
   ·exact h3 x hx (hmem r' h4 x hx2)
  ·have hrR : r ∈ R:=by
     rcases List.mem_cons.1 hr with h4 | h4
     ·exact absurd h4 hry
     ·exact h4
   obtain ⟨k1,k2⟩:=Zl2 h2 r hrR;refine ⟨k1,fun r' hr' hne x hx hx2=>?_⟩
   by_cases hr'y : r' = y
   ·subst hr'y
    exact h3 x hx2 (hmem r hrR x hx)
   ·rcases List.mem_cons.1 hr' with h4 | h4
    ·exact hr'y h4
    ·exact k2 r' h4 hne x hx hx2
theorem Zp2 (R : List Nat) (att : Nat -> List Nat) (D : List Nat) (hDR : ∀ i ∈ D,i ∈ R) (Φ : Nat -> Value -> World -> Prop) {l0 : Array Bool} {a0 : Act} {w0 : World} (hok : Zh0 md ops R att l0 = true) (hL : ∀ u ∈ Zai R att,u ∉ L)
    (hst : ∀ i ∈ Zai R att,∀ v w w',Below w.heap.size w w' -> Φ i v w -> Φ i v w') (hS : ∀ w',Below w0.heap.size w0 w' -> S w') {F : Nat}
    (hop : ∀ i ∈ R,∀ (ν : Nat -> Value) (w : World),Below w0.heap.size w0 w -> (∀ j ∈ Zai R att,j ∈ Zaf md ops i -> Φ j (ν (Zak ops j)) w) ->
     wpOp P ops (OnlyNormal Q) i (fun a' w'=>∃ v,a' = (Zap ((Zai R att).map (Zak ops)) a0 ν).put (some (Zak ops i)) v /\ Φ i v w' /\ Below w.heap.size w w' /\ Zmk P ops Φ w' (att i) a' /\ (i ∈ D -> ∀ j ∈ D,∀ u,Φ j u w -> v ≠ u)) (Zap ((Zai R att).map (Zak ops)) a0 ν) w)
    (hfin : ∀ (ν : Nat -> Value) (w : World),Below w0.heap.size w0 w -> (∀ i ∈ Zai R att,Φ i (ν (Zak ops i)) w) -> (∀ i ∈ D,∀ j ∈ D,i ≠ j -> ν (Zak ops i) ≠ ν (Zak ops j)) -> Z8 P md ops (OnlyNormal Q) L S F (Zan (Zai R att) l0) (Zap ((Zai R att).map (Zak ops)) a0 ν) w) :
    ∀ (n : Nat) (l : Array Bool) (ν : Nat -> Value) (w : World),n = left (Zai R att) l -> l.size = l0.size -> (∀ k,k ∉ Zai R att -> l.getD k true = l0.getD k true) -> (∀ k,l0.getD k false = true -> l.getD k false = true) ->
     (∀ r ∈ Zai R att,l.getD r false = true -> ∀ p ∈ Zaf md ops r,l.getD p false = true) ->
     (∀ r ∈ R,∀ u ∈ att r,(l.getD r true = true -> l.getD u false = true) /\ (l.getD r true = false -> l.getD u true = false)) -> Below w0.heap.size w0 w -> (∀ r ∈ Zai R att,l.getD r true = true -> Φ r (ν (Zak ops r)) w) -> (∀ i ∈ D,∀ j ∈ D,i ≠ j -> l.getD i true = true -> l.getD j true = true -> ν (Zak ops i) ≠ ν (Zak ops j)) ->
     Z8 P md ops (OnlyNormal Q) L S (n + F) l (Zap ((Zai R att).map (Zak ops)) a0 ν) w:=by
 simp only [Zh0,Bool.and_eq_true,decide_eq_true_eq] at hok;obtain ⟨⟨⟨⟨⟨hto,hou⟩,hnd⟩,hsz0⟩,hato⟩,hns⟩:=hok;rw [List.all_eq_true] at hato;obtain ⟨t1,t2⟩:=Zfu R l0 hto;have hndf:=Zid hnd
 have hmemR : ∀ r ∈ R,r ∈ Zai R att:=fun r hr=>List.mem_flatMap.2 ⟨r,hr,List.mem_cons_self ..⟩
 have hmemU : ∀ r ∈ R,∀ u ∈ att r,u ∈ Zai R att:=fun r hr u hu=>List.mem_flatMap.2 ⟨r,hr,List.mem_cons_of_mem _ hu⟩
 have hattp : ∀ r ∈ R,∀ u ∈ att r,r ∈ Zaf md ops u /\ (∃ o,ops[u]? = some o):=fun r hr=>by
  have : ∀ (us done : List Nat),Zff md ops l0 r us done = true -> ∀ u ∈ us,r ∈ Zaf md ops u /\ (∃ o,ops[u]? = some o):=by
   intro us
   induction us with
   | nil=>intro _ _ u hu;cases hu
   | cons x us ih =>
    intro done h u hu;simp only [Zff,Bool.and_eq_true] at h
    rcases List.mem_cons.1 hu with rfl | hu
    ·refine ⟨List.contains_iff_mem.1 h.1.1.1.1.2,?_⟩
     cases ho : ops[u]? with
     | none=>have:=h.1.1.1.1.1;rw [ho] at this;cases this
     | some o=>exact ⟨o,rfl⟩
    ·exact ih _ h.2 u hu
  exact this (att r) [] (hato r hr)
 intro n
 induction n using Nat.strongRecOn with
 | _ n ih =>
  intro l ν w hn hsz hK hM hD hA hb hΦ hNE
  have hsize : ∀ r ∈ Zai R att,r < l.size:=fun x hx=>by
   obtain ⟨r,hr,hx2⟩:=List.mem_flatMap.1 hx
   rcases List.mem_cons.1 hx2 with rfl | hx2
   ·obtain ⟨-,o,d,ho,-⟩:=t1 x hr
    have:=(Array.getElem?_eq_some_iff.1 ho).1;omega
   ·obtain ⟨-,o,ho⟩:=hattp r hr x hx2
    have:=(Array.getElem?_eq_some_iff.1 ho).1;omega
  have htf : ∀ k,k < l.size -> l.getD k true = true -> l.getD k false = true:=fun k hk h=>by
   rw [Array.getD_eq_getD_getElem?,Array.getElem?_eq_getElem hk] at h ⊢;exact h
  by_cases hex : ∃ r ∈ R,l.getD r true = false
  ·obtain ⟨r,hr,hr1,hr2⟩:=t2 l hsz hM (fun r hr h u hu=>(hA r hr u hu).1 h) hex
   obtain ⟨-,o,d,ho,-⟩:=t1 r hr;have hready:=Zeu (md:=md) hr1 ho hr2
   obtain ⟨m,rfl⟩ : ∃ m,n = m + 1:=by
    have:=Zh6 hndf (hmemR r hr) hr1;exact ⟨left (Zai R att) (l.setIfInBounds r true),by omega⟩
   rw [Nat.add_right_comm];refine ⟨fun h0=>(by rw [h0] at hready;cases hready),fun i hi=>?_⟩;obtain ⟨hi1,hi2,hi3⟩:=Zic hi
   have hiF : i ∈ Zai R att:=by
    apply Classical.byContradiction
    intro hni;unfold Zq2 at hou;rw [List.all_eq_true] at hou;have h1:=hou i (List.mem_range.2 hi2);simp only [Bool.or_eq_true,List.any_eq_true,List.all_eq_true,Bool.and_eq_true,Bool.not_eq_true'] at h1
    rcases h1 with ((h1 | h1) | ⟨p,hp,h2,h3⟩) | h1
    ·exact hni (List.contains_iff_mem.1 h1)
    ·rw [hK i hni,h1] at hi1;cases hi1
    ·have hpR : p ∉ Zai R att:=fun h=>by rw [List.contains_iff_mem.2 h] at h2;cases h2
     have h4:=hi3 p hp;have h5:=Zc2 h4;rw [hK p hpR] at h5
     have hps : p < l.size:=by
      rcases Nat.lt_or_ge p l.size with h' | h'
      ·exact h'
      ·rw [Array.getD_eq_getD_getElem?,Array.getElem?_eq_none h'] at h4;cases h4
     rw [Array.getD_eq_getD_getElem?,Array.getElem?_eq_getElem (by omega)] at h5 h3;simp only [Option.getD_some] at h5 h3;rw [h5] at h3;cases h3
    ·have h2:=Zmh (md:=md) (ops:=ops) (l:=l) (R:=Zai R att) hD (Zai R att).reverse (Zaf md ops i) (fun r hr=>List.mem_reverse.1 hr) hi3
     have h3:=Zc2 (h2 r (List.contains_iff_mem.1 (h1 r hr)));rw [hr1] at h3;cases h3
   have hiR : i ∈ R:=by
    obtain ⟨r',hr',hx⟩:=List.mem_flatMap.1 hiF
    rcases List.mem_cons.1 hx with rfl | hx
    ·exact hr'
    ·exfalso
     have h1:=Zc2 (hi3 r' (hattp r' hr' i hx).1);have h2:=Zc2 ((hA r' hr' i hx).1 h1);rw [hi1] at h2;cases h2
   have hdn : Zak ops i ∈ (Zai R att).map (Zak ops):=List.mem_map.2 ⟨i,hiF,rfl⟩;obtain ⟨own1,own2⟩:=Zl2 hndf i hiR;obtain ⟨ni,nus⟩:=Zaz own1;refine wpOp_mono (fun a' w' h=>?_) (hop i hiR ν w hb fun j hj hp=>hΦ j hj (Zc2 (hi3 j hp)));obtain ⟨v,rfl,hv,hb2,htr,hne⟩:=h;have hb3:=hb.trans (hb2.mono hb.size);refine ⟨fun _=>hS _ hb3,?_⟩;rw [Zgw hdn hnd] at htr ⊢;have hset : (l.setIfInBounds i true).getD i false = true:=Zex (hsize i hiF)
   have hund : ∀ u ∈ att i,(l.setIfInBounds i true).getD u true = false:=fun u hu=>by
    rw [Go.getD_set_ne true (fun e : i = u=>ni (e ▸ hu))];exact (hA i hiR u hu).2 hi1
   have hlt:=Zh6 hndf hiF hi1;have hlm:=Zkq hndf (att i) (l.setIfInBounds i true) nus (hmemU i hiR) hund
   have hm : m = (att i).length + left (Zai R att) (Zan (att i) (l.setIfInBounds i true)):=by omega
   rw [hm,Nat.add_assoc];refine Znr (R:=Zai R att) hns hnd hiF (att i) [] (l.setIfInBounds i true) _ (hato i hiR) (hmemU i hiR) (fun u hu=>hL u (hmemU i hiR u hu)) hund (by simp;omega) nus (fun p hp=>Zaa (hM p hp)) hset (fun p hp=>Zaa (hi3 p hp)) (fun u hu=>by cases hu) (hS _ hb3) htr (fun ν' k1 k2=>?_)
   have hνi : ν' (Zak ops i) = v:=by
    rw [k1 _ (fun u hu=>Zdu hnd (hmemU i hiR u hu) hiF (fun e=>ni (e ▸ hu)))];simp only [upd,if_true]
   have hνo : ∀ x ∈ Zai R att,x ≠ i -> x ∉ att i -> ν' (Zak ops x) = ν (Zak ops x):=fun x hx h1 h2=>by
    rw [k1 _ (fun u hu=>Zdu hnd (hmemU i hiR u hu) hx (fun e=>h2 (e ▸ hu)))];simp only [upd,if_neg (Zdu hnd hx hiF h1)]
   refine ih _ (by omega) (Zan (att i) (l.setIfInBounds i true)) ν' w' rfl (by rw [Zd2];simp;exact hsz) (fun k hk=>?_) (fun k hk=>Za4 (Zaa (hM k hk))) (fun x hx hxt p hp=>?_) (fun r' hr' u hu=>?_) hb3 (fun x hx hxt=>?_) (fun a ha b hb' hab hat hbt=>?_)
   ·rw [Za7,if_neg (fun h=>hk (hmemU i hiR k h)),Go.getD_set_ne true (fun e : i = k=>hk (e ▸ hiF))]
    exact hK k hk
   ·rcases Zh7 hxt with h1 | h1
    ·-- an operation of the train
     have h2 : ∀ (us done : List Nat),Zff md ops l0 i us done = true -> (∀ u ∈ done,(Zan (att i) (l.setIfInBounds i true)).getD u false = true) -> (∀ u ∈ us,u ∈ att i) -> ∀ u ∈ us,∀ p ∈ Zaf md ops u,(Zan (att i) (l.setIfInBounds i true)).getD p false = true:=by
      intro us
      induction us with
      | nil=>intro _ _ _ _ u hu;cases hu
      | cons y us ihu =>
       intro done h hd hall u hu p hp;simp only [Zff,Bool.and_eq_true,List.all_eq_true] at h
       rcases List.mem_cons.1 hu with rfl | hu
       ·have h7:=h.1.1.2 p hp
        simp only [Bool.or_eq_true,beq_iff_eq] at h7
        rcases h7 with ((h7 | h7) | h7) | h7
        ·rw [h7];exact Za4 hset
        ·exact hd p (List.contains_iff_mem.1 h7)
        ·exact Za4 (Zaa (hM p h7))
        ·exact Za4 (Zaa (hi3 p (List.contains_iff_mem.1 h7)))
       ·refine ihu (y :: done) h.2 (fun z hz=>?_) (fun z hz=>hall z (List.mem_cons_of_mem _ hz)) u hu p hp
        rcases List.mem_cons.1 hz with rfl | hz
        ·exact Zhx (hall z (List.mem_cons_self ..)) (by simp;exact hsize z (hmemU i hiR z (hall z (List.mem_cons_self ..))))
        ·exact hd z hz
     exact h2 (att i) [] (hato i hiR) (fun u hu=>by cases hu) (fun u hu=>hu) x h1 p hp
    ·by_cases hxi : i = x
     ·subst hxi;exact Za4 (Zaa (hi3 p hp))
     ·rw [Go.getD_set_ne false hxi] at h1
      exact Za4 (Zaa (hD x hx h1 p hp))
   ·by_cases hri : r' = i
    ·subst hri
     refine ⟨fun _=>Zhx hu (by simp;exact hsize u (hmemU r' hr' u hu)),fun h=>?_⟩;have h1:=Zes h;rw [Zc2 hset] at h1;cases h1
    ·have hd1:=own2 r' hr' hri
     have hu1 : u ∉ att i:=fun h=>hd1 u (List.mem_cons_of_mem _ h) (List.mem_cons_of_mem _ hu)
     have hu2 : i ≠ u:=fun h=>hd1 i (List.mem_cons_self ..) (h ▸ List.mem_cons_of_mem _ hu)
     have hr1' : r' ∉ att i:=fun h=>hd1 r' (List.mem_cons_of_mem _ h) (List.mem_cons_self ..)
     refine ⟨fun h=>?_,fun h=>?_⟩
     ·rw [Za7,if_neg hr1',Go.getD_set_ne true (Ne.symm hri)] at h
      exact Za4 (Zaa ((hA r' hr' u hu).1 h))
     ·rw [Za7,if_neg hr1',Go.getD_set_ne true (Ne.symm hri)] at h
      rw [Za7,if_neg hu1,Go.getD_set_ne true hu2];exact (hA r' hr' u hu).2 h
   ·by_cases hxi : x = i
    ·subst hxi;rw [hνi];exact hv
    ·by_cases hxa : x ∈ att i
     ·exact k2 x hxa
     ·rw [hνo x hx hxi hxa]
      rw [Za7,if_neg hxa,Go.getD_set_ne true (Ne.symm hxi)] at hxt;exact hst x hx _ _ _ hb2 (hΦ x hx hxt)
   ·have hDa : ∀ x ∈ D,x ∉ att i:=fun x hx h=>by
      by_cases hxi : x = i
      ·exact ni (hxi ▸ h)
      ·exact own2 x (hDR x hx) hxi x (List.mem_cons_of_mem _ h) (List.mem_cons_self ..)
    have hold : ∀ x ∈ D,x ≠ i -> (Zan (att i) (l.setIfInBounds i true)).getD x true = true -> ν' (Zak ops x) = ν (Zak ops x) /\ l.getD x true = true:=fun x hx hxi h=>by
     rw [Za7,if_neg (hDa x hx),Go.getD_set_ne true (Ne.symm hxi)] at h;exact ⟨hνo x (hmemR x (hDR x hx)) hxi (hDa x hx),h⟩
    by_cases hai : a = i
    ·have hbi : b ≠ i:=fun h=>hab (hai.trans h.symm)
     obtain ⟨e1,e2⟩:=hold b hb' hbi hbt;rw [hai,hνi,e1];exact hne (hai ▸ ha) b hb' _ (hΦ b (hmemR b (hDR b hb')) e2)
    ·obtain ⟨e1,e2⟩:=hold a ha hai hat
     by_cases hbi : b = i
     ·rw [hbi,hνi,e1]
      exact fun h=>hne (hbi ▸ hb') a ha _ (hΦ a (hmemR a (hDR a ha)) e2) h.symm
     ·obtain ⟨e3,e4⟩:=hold b hb' hbi hbt
      rw [e1,e3];exact hNE a ha b hb' hab e2 e4
  ·have hall : ∀ x ∈ Zai R att,l.getD x true = true:=fun x hx=>by
     obtain ⟨r,hr,hx2⟩:=List.mem_flatMap.1 hx
     have h1 : l.getD r true = true:=by
      cases h : l.getD r true with
      | true=>rfl
      | false=>exact absurd ⟨r,hr,h⟩ hex
     rcases List.mem_cons.1 hx2 with rfl | hx2
     ·exact h1
     ·exact Zc2 ((hA r hr x hx2).1 h1)
   have h0 : left (Zai R att) l = 0:=by
    unfold left;rw [List.length_eq_zero_iff,List.filter_eq_nil_iff];intro r hr;rw [hall r hr];simp
   have : l = Zan (Zai R att) l0:=by
    refine Zm5 (by rw [Zd2];exact hsz) fun k=>?_
    rw [Za7]
    by_cases hk : k ∈ Zai R att
    ·rw [if_pos hk];exact hall k hk
    ·rw [if_neg hk];exact hK k hk
   subst this;rw [hn,h0,Nat.zero_add];exact hfin ν w hb (fun i hi=>hΦ i hi (hall i hi)) (fun i hi j hj hij=>hNE i hi j hj hij (hall i (hmemR i (hDR i hi))) (hall j (hmemR j (hDR j hj))))
theorem Zlf (DP : List (Nat × Nat)) (RP : List (Nat × Nat)) (att : Nat -> List Nat) (FP : List (Nat × Nat)) (Φ : Nat -> Value -> World -> Prop) (F : Nat) {l0 : Array Bool} {a0 : Act} {w0 : World}
    (hok : (Zh0 md ops (RP.map (·.1)) att l0 && (Zai (RP.map (·.1)) att == FP.map (·.1)) && FP.all (fun p=>Zak ops p.1 == p.2) && RP.all (fun p=>Zak ops p.1 == p.2) && FP.all (fun p=>!L.contains p.1) && DP.all (fun p=>RP.contains p)) = true)
    (hst : ∀ p ∈ FP,∀ v w w',Below w.heap.size w w' -> Φ p.1 v w -> Φ p.1 v w') (hS : ∀ w',Below w0.heap.size w0 w' -> S w')
    (hop : ∀ p ∈ RP,∀ (ν : Nat -> Value) (w : World),Below w0.heap.size w0 w -> (∀ q ∈ FP,(Zaf md ops p.1).contains q.1 = true -> Φ q.1 (ν q.2) w) ->
     wpOp P ops (OnlyNormal Q) p.1 (fun a' w'=>∃ v,a' = (Zap (FP.map (·.2)) a0 ν).put (some p.2) v /\ Φ p.1 v w' /\ Below w.heap.size w w' /\ Zmk P ops Φ w' (att p.1) a' /\ (p ∈ DP -> ∀ q ∈ DP,∀ u,Φ q.1 u w -> v ≠ u)) (Zap (FP.map (·.2)) a0 ν) w)
    (hfin : ∀ (ν : Nat -> Value) (w : World),Below w0.heap.size w0 w -> (∀ p ∈ FP,Φ p.1 (ν p.2) w) -> (∀ p ∈ DP,∀ q ∈ DP,p ≠ q -> ν p.2 ≠ ν q.2) -> Z8 P md ops (OnlyNormal Q) L S F (Zan (FP.map (·.1)) l0) (Zap (FP.map (·.2)) a0 ν) w) :
    Z8 P md ops (OnlyNormal Q) L S (FP.length + F) l0 a0 w0:=by
 simp only [Bool.and_eq_true,beq_iff_eq] at hok;obtain ⟨⟨⟨⟨⟨h1,h2⟩,h3⟩,h4⟩,h5⟩,h6⟩:=hok;rw [List.all_eq_true] at h6;have hD:=Zl3 (ops:=ops) FP h3;rw [<- h2] at hD;rw [List.all_eq_true] at h3 h4 h5
 have hmem : ∀ i,i ∈ Zai (RP.map (·.1)) att -> ∃ p ∈ FP,p.1 = i:=fun i hi=>by
  rw [h2] at hi;exact List.mem_map.1 hi
 have hall:=h1;simp only [Zh0,Bool.and_eq_true,decide_eq_true_eq] at h1;obtain ⟨⟨⟨⟨⟨hto,-⟩,hnd⟩,hsz0⟩,hato⟩,-⟩:=h1;obtain ⟨t1,-⟩:=Zfu _ l0 hto
 have hund : ∀ i ∈ Zai (RP.map (·.1)) att,l0.getD i true = false:=fun x hx=>by
  obtain ⟨r,hr,hx2⟩:=List.mem_flatMap.1 hx
  rcases List.mem_cons.1 hx2 with rfl | hx2
  ·exact (t1 x hr).1
  ·rw [List.all_eq_true] at hato
   have : ∀ (us done : List Nat),Zff md ops l0 r us done = true -> ∀ u ∈ us,l0.getD u true = false:=by
    intro us
    induction us with
    | nil=>intro _ _ u hu;cases hu
    | cons y us ih =>
     intro done h u hu;simp only [Zff,Bool.and_eq_true,Bool.not_eq_true'] at h
     rcases List.mem_cons.1 hu with rfl | hu
     ·exact h.1.1.1.2
     ·exact ih _ h.2 u hu
   exact this _ _ (hato r hr) x hx2
 have hlen : left (Zai (RP.map (·.1)) att) l0 = FP.length:=by
  unfold left;rw [List.filter_eq_self.2 (fun r hr=>by rw [hund r hr];rfl),h2,List.length_map]
 have h:=Zp2 (P:=P) (ops:=ops) (Q:=Q) (md:=md) (L:=L) (S:=S) (RP.map (·.1)) att (DP.map (·.1)) (fun i hi=>by
  obtain ⟨p,hp,rfl⟩:=List.mem_map.1 hi
  exact List.mem_map.2 ⟨p,List.contains_iff_mem.1 (h6 p hp),rfl⟩) Φ (F:=F) (a0:=a0) (w0:=w0) hall (fun u hu=>by
  obtain ⟨p,hp,rfl⟩:=hmem u hu;have:=h5 p hp;intro hc;rw [List.contains_iff_mem.2 hc] at this
  cases this) (fun i hi=>by
  obtain ⟨p,hp,rfl⟩:=hmem i hi
  exact hst p hp) hS (fun i hi ν w hb hP=>by
  obtain ⟨p,hp,rfl⟩:=List.mem_map.1 hi
  have:=hop p hp ν w hb (fun q hq hc=>by
   have hq2:=hP q.1 (by rw [h2];exact List.mem_map.2 ⟨q,hq,rfl⟩) (List.contains_iff_mem.1 hc);have e:=h3 q hq;simp only [beq_iff_eq] at e;rw [e] at hq2
   exact hq2)
  have e:=h4 p hp;simp only [beq_iff_eq] at e;rw [hD,e];refine wpOp_mono (fun a' w' h=>?_) this;obtain ⟨v,k1,k2,k3,k4,k5⟩:=h;refine ⟨v,k1,k2,k3,k4,fun hi j hj u hu=>?_⟩;obtain ⟨p',hp',hpe⟩:=List.mem_map.1 hi;obtain ⟨q',hq',rfl⟩:=List.mem_map.1 hj;have e1:=h4 p' (List.contains_iff_mem.1 (h6 p' hp'));simp only [beq_iff_eq] at e1;have : p' = p:=Prod.ext hpe (by rw [<- e1,<- e,hpe])
  exact k5 (this ▸ hp') q' hq' u hu) (fun ν w hb hf hne=>by
  rw [hD,h2]
  exact hfin ν w hb (fun p hp=>by
   have hq2:=hf p.1 (by rw [h2];exact List.mem_map.2 ⟨p,hp,rfl⟩);have e:=h3 p hp;simp only [beq_iff_eq] at e;rw [e] at hq2
   exact hq2) (fun p hp q hq hpq=>by
   have e1:=h4 p (List.contains_iff_mem.1 (h6 p hp));have e2:=h4 q (List.contains_iff_mem.1 (h6 q hq));simp only [beq_iff_eq] at e1 e2;have:=hne p.1 (List.mem_map.2 ⟨p,hp,rfl⟩) q.1 (List.mem_map.2 ⟨q,hq,rfl⟩) (fun h=>hpq (Prod.ext h (by rw [<- e1,<- e2,h])));rw [e1,e2] at this
   exact this)) FP.length l0 (fun d=>a0.tmps.getD d undef) w0 hlen.symm rfl (fun _ _=>rfl) (fun _ h=>h)
  (fun r hr h=>by have h1:=Zc2 h;rw [hund r hr] at h1;cases h1)
  (fun r hr u hu=>⟨fun h=>(by rw [hund r (List.mem_flatMap.2 ⟨r,hr,List.mem_cons_self ..⟩)] at h;cases h),fun _=>hund u (List.mem_flatMap.2 ⟨r,hr,List.mem_cons_of_mem _ hu⟩)⟩)
  (Below.refl _ _) (fun r hr h=>by rw [hund r hr] at h;cases h)
  (fun i hi j hj _ h _=>by
   obtain ⟨p,hp,rfl⟩:=List.mem_map.1 hi;rw [hund p.1 (List.mem_flatMap.2 ⟨p.1,List.mem_map.2 ⟨p,List.contains_iff_mem.1 (h6 p hp),rfl⟩,List.mem_cons_self ..⟩)] at h
   cases h)
 rw [Zmq] at h;exact h
theorem Zdh (RP : List (Nat × Nat)) (att : Nat -> List Nat) (FP : List (Nat × Nat)) (Φ : Nat -> Value -> World -> Prop) (F : Nat) {l0 : Array Bool} {a0 : Act} {w0 : World}
    (hok : (Zh0 md ops (RP.map (·.1)) att l0 && (Zai (RP.map (·.1)) att == FP.map (·.1)) && FP.all (fun p=>Zak ops p.1 == p.2) && RP.all (fun p=>Zak ops p.1 == p.2) && FP.all (fun p=>!L.contains p.1)) = true)
    (hst : ∀ p ∈ FP,∀ v w w',Below w.heap.size w w' -> Φ p.1 v w -> Φ p.1 v w') (hS : ∀ w',Below w0.heap.size w0 w' -> S w')
    (hop : ∀ p ∈ RP,∀ (ν : Nat -> Value) (w : World),Below w0.heap.size w0 w -> (∀ q ∈ FP,(Zaf md ops p.1).contains q.1 = true -> Φ q.1 (ν q.2) w) ->
     wpOp P ops (OnlyNormal Q) p.1 (fun a' w'=>∃ v,a' = (Zap (FP.map (·.2)) a0 ν).put (some p.2) v /\ Φ p.1 v w' /\ Below w.heap.size w w' /\ Zmk P ops Φ w' (att p.1) a') (Zap (FP.map (·.2)) a0 ν) w)
    (hfin : ∀ (ν : Nat -> Value) (w : World),Below w0.heap.size w0 w -> (∀ p ∈ FP,Φ p.1 (ν p.2) w) -> Z8 P md ops (OnlyNormal Q) L S F (Zan (FP.map (·.1)) l0) (Zap (FP.map (·.2)) a0 ν) w) :
    Z8 P md ops (OnlyNormal Q) L S (FP.length + F) l0 a0 w0:=
 Zlf [] RP att FP Φ F (by rw [hok];rfl) hst hS (fun p hp ν w hb hP=>wpOp_mono (fun a' w' h=>by
  obtain ⟨v,k1,k2,k3,k4⟩:=h
  exact ⟨v,k1,k2,k3,k4,fun h=>by cases h⟩) (hop p hp ν w hb hP)) (fun ν w hb hf _=>hfin ν w hb hf)
end
def Zar (B0 : Nat) (q : Rat) (ca mv x0 x1 al as_ : Nat) (i : Nat) (v : Value) (w : World) : Prop:=
 if i = ca \/ i = mv then ∃ na A n c nb B m d,v = .tuple #[.agg #[.bool na,.slice A n c,.bool nb,.slice B m d],.int .i64 0] /\ Fr w na A n c nb B m d q
 else if i = x0 then ∃ na A n c nb B m d,v = .agg #[.bool na,.slice A n c,.bool nb,.slice B m d] /\ Fr w na A n c nb B m d q
 else if i = x1 \/ i = as_ then v = .int .i64 0
 else if i = al then ∃ g,v = .pointer (some ⟨g,0,none⟩) /\ B0 <= g /\ Blk w g 64 #[.bool false,.slice none 0 0,.bool false,.slice none 0 0]
 else True
theorem Zem {B0 : Nat} {q : Rat} {ca mv x0 x1 al as_ i : Nat} {v : Value} {w w' : World} (hb : Below w.heap.size w w') (h : Zar B0 q ca mv x0 x1 al as_ i v w) : Zar B0 q ca mv x0 x1 al as_ i v w':=by
 unfold Zar at h ⊢
 split at h
 ·rename_i h1;rw [if_pos h1]
  obtain ⟨na,A,n,c,nb,B,m,d,e,hf⟩:=h;exact ⟨na,A,n,c,nb,B,m,d,e,hf.below hb⟩
 ·rename_i h1;rw [if_neg h1]
  split at h
  ·rename_i h2;rw [if_pos h2]
   obtain ⟨na,A,n,c,nb,B,m,d,e,hf⟩:=h;exact ⟨na,A,n,c,nb,B,m,d,e,hf.below hb⟩
  ·rename_i h2;rw [if_neg h2]
   split at h
   ·rename_i h3;rw [if_pos h3];exact h
   ·rename_i h3;rw [if_neg h3]
    split at h
    ·rename_i h4;rw [if_pos h4]
     obtain ⟨g,e,h5,h6⟩:=h;exact ⟨g,e,h5,Zc hb h6⟩
    ·rename_i h4;rw [if_neg h4];trivial
theorem Fr.zero_iff {w : World} {na : Bool} {A : Option Addr} {n c : Nat} {nb : Bool} {B : Option Addr} {m d : Nat} {r : Rat} (h : Fr w na A n c nb B m d r) : n = 0 ↔ r = 0:=by
 have h1:=h.1.lim.len;have h2:=length_digits_pos (v:=r.num.natAbs)
 constructor
 ·intro hn
  have : r.num = 0:=by omega
  exact Rat.num_eq_zero.1 this
 ·rintro rfl
  have : (0 : Rat).num.natAbs = 0:=rfl;omega
attribute [local go_sem] Zg
end Go.Proofs.YtkcbhbddgmkoiaaGreat
