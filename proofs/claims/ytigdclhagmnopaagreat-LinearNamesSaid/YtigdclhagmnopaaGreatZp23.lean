/- A drawn region: an operation that reads no memory is taken -/
import Derived.Test.YtigdclhagmnopaaGreatZp22
set_option linter.unusedSimpArgs false
set_option linter.unusedVariables false
namespace Go.Proofs.YtigdclhagmnopaaGreat
open Go.RowKit
section
variable {P : Program} {ops : Array Oper} {Q : Exit -> Act -> World -> Prop} {md : Region.Mode} {L : List Nat} {S : World -> Prop}
theorem Ziw {i : Nat} {oi : Oper} {v : Value} (hi : ops[i]? = some oi) (hsel : ∀ (j : Nat) (o : Oper) cs b,ops[j]? = some o -> o.op ≠ .select cs b)
    (hQ : ∀ c a w,Q (.panic c) (a.put oi.dst v) w -> Q (.panic c) a w) (hiL : L.contains i = false) :
    ∀ (fuel : Nat) (listed : Array Bool) (a : Act) (w : World),
     (∀ j oj,ops[j]? = some oj -> j ≠ i -> listed.getD j true = false -> (∀ e ∈ oj.after,Region.binds md e = true -> e.on ≠ i) -> oi.apart ops oj = true) ->
     i ∈ Region.ready md ops listed -> YieldsIf P ops (fun _=>True) oi v a -> (Zcs L listed = true -> S w) ->
     Zag P md ops Q L S fuel (listed.setIfInBounds i true) (a.put oi.dst v) w -> Zag P md ops Q L S (fuel + 1) listed a w:=by
 have hiL' : i ∉ L:=fun h=>by
  rw [List.contains_iff_mem.2 h] at hiL
  cases hiL
 intro fuel
 induction fuel with
 | zero =>
  intro listed a w _ hr hy hS H;refine ⟨fun h=>(by rw [h] at hr;cases hr),fun j hj=>?_⟩
  by_cases hji : j = i
  ·subst hji;exact hy.wpOp hi trivial ⟨fun h=>hS (by rwa [Zcl hiL'] at h),H⟩
  ·have:=ready_mono hj hji
   rw [H.1] at this
   cases this
 | succ fuel ih =>
  intro listed a w hfree hr hy hS H;refine ⟨fun h=>(by rw [h] at hr;cases hr),fun j hj=>?_⟩
  by_cases hji : j = i
  ·subst hji;exact hy.wpOp hi trivial ⟨fun h=>hS (by rwa [Zcl hiL'] at h),H⟩
  ·have h1:=H.2 j (ready_mono hj hji)
   obtain ⟨hjun,oj,hoj,hall⟩:=mem_ready.1 hj
   have hnot : ∀ e ∈ oj.after,Region.binds md e = true -> e.on ≠ i:=fun e he hb heq=>by
    have h1:=hall e he hb;have h0:=(mem_ready.1 hr).1;rw [heq] at h1
    rcases Nat.lt_or_ge i listed.size with h' | h'
    ·simp [h'] at h0 h1;rw [h0] at h1;cases h1
    ·simp [Array.getElem?_eq_none h'] at h1
   have h2:=wpOp_putIf hoj (hfree j oj hoj hji hjun hnot) (fun cs b=>hsel i oi cs b hi) (fun cs b=>hsel j oj cs b hoj) hQ hy h1
   have hfree' : ∀ k ok,ops[k]? = some ok -> k ≠ i -> (listed.setIfInBounds j true).getD k true = false ->
       (∀ e ∈ ok.after,Region.binds md e = true -> e.on ≠ i) -> oi.apart ops ok = true:=fun k ok hk hki hun hno=>by
    refine hfree k ok hk hki ?_ hno
    by_cases hjk : j = k
    ·subst hjk;exact hjun
    ·rw [Go.getD_set_ne true hjk] at hun;exact hun
   refine wpOp_mono (fun a' w' h3=>?_) h2
   have hSj : Zcs L (listed.setIfInBounds j true) = true -> S w':=fun h=>h3.2.1 (by
    rw [Array.setIfInBounds_comm _ _ (Ne.symm hji),Zcl hiL'];exact h)
   refine ⟨hSj,ih (listed.setIfInBounds j true) a' w' hfree' (ready_mono hr (Ne.symm hji)) h3.1 hSj ?_⟩;rw [Array.setIfInBounds_comm _ _ hji];exact h3.2.2
theorem Zg {i : Nat} {oi : Oper} {v : Value} {fuel : Nat} {listed : Array Bool} {a : Act} {w : World} (hi : ops[i]? = some oi)
    (hs : Region.noSelect ops = true) (hf : Region.free md ops listed i = true) (hr : (Region.ready md ops listed).contains i = true) (hL : L.contains i = false)
    (hy : YieldsIf P ops (fun _=>True) oi v a) (hS : Zcs L listed = true -> S w)
    (h : Zag P md ops (OnlyNormal Q) L S fuel (listed.setIfInBounds i true) (a.put oi.dst v) w) : Zag P md ops (OnlyNormal Q) L S (fuel + 1) listed a w:=
 Ziw hi (Region.noSelect_spec hs) (fun _ _ _ h=>(h : False).elim) hL fuel listed a w (Region.free_spec hi hf) (by simpa using hr) hy hS h
end
def Zfu (md : Region.Mode) (ops : Array Oper) (L : List Nat) : List Nat -> Array Bool -> Bool
 | [],_=>true
 | i :: is,l=>Region.free md ops l i && (Region.ready md ops l).contains i && !L.contains i && Zfu md ops L is (l.setIfInBounds i true)
section
variable {P : Program} {ops : Array Oper} {Q : Exit -> Act -> World -> Prop} {md : Region.Mode} {L : List Nat} {S : World -> Prop}
theorem Ze1 (hs : Region.noSelect ops = true) {w : World} (hS : S w) : ∀ (is : List Nat) (F : Nat) (listed : Array Bool) (a : Act),Zfu md ops L is listed = true -> Zcj P ops (fun _=>True) is a (fun a'=>Zag P md ops (OnlyNormal Q) L S F (Zdf is listed) a' w) -> Zag P md ops (OnlyNormal Q) L S (F + is.length) listed a w
 | [],F,l,a,_,h=>h
 | i :: is,F,l,a,hc,h=>by
  obtain ⟨oi,v,ho,hy,h2⟩:=h;simp only [Zfu,Bool.and_eq_true,Bool.not_eq_true'] at hc;exact Zg ho hs hc.1.1.1 hc.1.1.2 hc.1.2 hy (fun _=>hS) (Ze1 hs hS is F _ _ hc.2 h2)
theorem Zfh {F : Nat} {listed : Array Bool} {a : Act} {w : World} (k : Nat) (is : List Nat) (hk : is.length = k) (hc : (Region.noSelect ops && Zfu md ops L is listed) = true) (hS : S w)
    (h : Zcj P ops (fun _=>True) is a (fun a'=>Zag P md ops (OnlyNormal Q) L S F (Zdf is listed) a' w)) : Zag P md ops (OnlyNormal Q) L S (F + k) listed a w:=by
 rw [Bool.and_eq_true] at hc;subst hk;exact Ze1 hc.1 hS is F listed a hc.2 h
end
def Za3 (R : List Nat) (att : Nat -> List Nat) : List Nat:=R.flatMap fun i=>i :: att i
def Zhg (md : Region.Mode) (ops : Array Oper) (l : Array Bool) (i : Nat) : List Nat -> List Nat -> Bool
 | [],_=>true
 | u :: us,done=>(match ops[u]? with | some o=>o.dst.isSome | none=>false) && (Za2 md ops u).contains i && !l.getD u true && (Za2 md ops u).all (fun p=>p == i || done.contains p || l.getD p false || (Za2 md ops i).contains p) &&
     ((List.range ops.size).all fun j=>j == u || (j == i || done.contains j || l.getD j false || (Za2 md ops i).contains j) || (Za2 md ops j).contains u || (match ops[u]?,ops[j]? with | some ou,some oj=>ou.apart ops oj | _,_=>true)) && Zhg md ops l i us (u :: done)
def Zq9 (md : Region.Mode) (ops : Array Oper) (att : Nat -> List Nat) : List Nat -> Array Bool -> Bool
 | [],_=>true
 | r :: rs,l=>!l.getD r true && (match ops[r]? with | some o=>o.dst.isSome | none=>false) && (Za2 md ops r).all (fun p=>l.getD p false) && Zq9 md ops att rs (Zba (r :: att r) l)
def Zuh (md : Region.Mode) (ops : Array Oper) (R F : List Nat) (l : Array Bool) : Bool:=
 (List.range ops.size).all fun k=>F.contains k || l.getD k true || (Za2 md ops k).any (fun p=>!F.contains p && !l.getD p false) || (R.all fun r=>(clo md ops F.reverse (Za2 md ops k)).contains r)
def Zj8 (md : Region.Mode) (ops : Array Oper) (R : List Nat) (att : Nat -> List Nat) (l : Array Bool) : Bool:=
 Zq9 md ops att R l && Zuh md ops R (Za3 R att) l && Zbo ((Za3 R att).map (Za5 ops)) && decide (l.size = ops.size) && R.all (fun i=>Zhg md ops l i (att i) []) && Region.noSelect ops
section
variable {P : Program} {ops : Array Oper} {Q : Exit -> Act -> World -> Prop} {md : Region.Mode} {L : List Nat} {S : World -> Prop}
def Zow (P : Program) (ops : Array Oper) (Φ : Nat -> Value -> World -> Prop) (w : World) : List Nat -> Act -> Prop
 | [],_=>True
 | u :: us,a=>∃ o v,ops[u]? = some o /\ YieldsIf P ops (fun _=>True) o v a /\ Φ u v w /\ Zow P ops Φ w us (a.put o.dst v)
theorem Zgg {l : Array Bool} {i : Nat} (h : i < l.size) : (l.setIfInBounds i true).getD i false = true:=by
 rw [Array.getD_eq_getD_getElem?,Array.getElem?_setIfInBounds_self,if_pos h];rfl
theorem Zbt {us : List Nat} {l : Array Bool} {k : Nat} (h : l.getD k false = true) : (Zba us l).getD k false = true:=by
 induction us generalizing l with
 | nil=>exact h
 | cons u us ih=>exact ih (l:=l.setIfInBounds u true) (Zat h)
theorem Zk5 {us : List Nat} {l : Array Bool} {k : Nat} (hk : k ∈ us) (h : k < l.size) : (Zba us l).getD k false = true:=by
 induction us generalizing l with
 | nil=>cases hk
 | cons u us ih =>
  rcases List.mem_cons.1 hk with rfl | hk
  ·exact Zbt (us:=us) (Zgg h)
  ·exact ih (l:=l.setIfInBounds u true) hk (by simp;exact h)
theorem Zqh {Φ : Nat -> Value -> World -> Prop} {l0 : Array Bool} {i : Nat} {R : List Nat} {a0 : Act} {w : World} {F : Nat} (hns : Region.noSelect ops = true) (hnd : Zbo (R.map (Za5 ops)) = true) (hiR : i ∈ R) :
    ∀ (us done : List Nat) (l : Array Bool) (ν : Nat -> Value),Zhg md ops l0 i us done = true -> (∀ u ∈ us,u ∈ R) -> (∀ u ∈ us,u ∉ L) -> (∀ u ∈ us,l.getD u true = false) -> l.size = ops.size -> Zbo us = true ->
     (∀ p,l0.getD p false = true -> l.getD p false = true) -> l.getD i false = true -> (∀ p ∈ Za2 md ops i,l.getD p false = true) -> (∀ u ∈ done,l.getD u false = true) -> S w ->
     Zow P ops Φ w us (Zav (R.map (Za5 ops)) a0 ν) ->
     (∀ ν',(∀ k,(∀ u ∈ us,Za5 ops u ≠ k) -> ν' k = ν k) -> (∀ u ∈ us,Φ u (ν' (Za5 ops u)) w) -> Zag P md ops (OnlyNormal Q) L S F (Zba us l) (Zav (R.map (Za5 ops)) a0 ν') w) ->
     Zag P md ops (OnlyNormal Q) L S (us.length + F) l (Zav (R.map (Za5 ops)) a0 ν) w:=by
 intro us
 induction us with
 | nil =>
  intro done l ν _ _ _ _ _ _ _ _ _ _ _ _ h;rw [show ([] : List Nat).length + F = F by simp];exact h ν (fun _ _=>rfl) (fun u hu=>by cases hu)
 | cons u us ih =>
  intro done l ν hat hR hL hun hsz hndu hl0 hi hp hdone hS htr h;simp only [Zhg,Bool.and_eq_true,List.all_eq_true] at hat;obtain ⟨⟨⟨⟨⟨h1,h2⟩,h3⟩,h4⟩,h5⟩,h6⟩:=hat;obtain ⟨o,v,ho,hy,hΦ,htr2⟩:=htr;obtain ⟨n1,n2⟩:=Zbk hndu;have husz : u < ops.size:=(Array.getElem?_eq_some_iff.1 ho).1;have hu0:=hun u (List.mem_cons_self ..)
  have hready : u ∈ Region.ready md ops l:=Zgr hu0 ho (fun p hp2=>by
   have h7:=h4 p hp2;simp only [Bool.or_eq_true,beq_iff_eq] at h7
   rcases h7 with ((h7 | h7) | h7) | h7
   ·rw [h7];exact hi
   ·exact hdone p (List.contains_iff_mem.1 h7)
   ·exact hl0 p h7
   ·exact hp p (List.contains_iff_mem.1 h7))
  have hdst : o.dst = some (Za5 ops u):=by
   rw [ho] at h1;obtain ⟨d,hd⟩:=Option.isSome_iff_exists.1 h1;unfold Za5;rw [ho];simp only [hd,Option.getD_some]
  have hdn : Za5 ops u ∈ R.map (Za5 ops):=List.mem_map.2 ⟨u,hR u (List.mem_cons_self ..),rfl⟩;rw [List.length_cons,Nat.add_right_comm]
  refine Ziw ho (Region.noSelect_spec hns) (fun _ _ _ h=>(h : False).elim) (by
   cases hc : L.contains u with
   | false=>rfl
   | true=>exact absurd (List.contains_iff_mem.1 hc) (hL u (List.mem_cons_self ..))) _ l _ w (fun j oj hoj hju hjl hnw=>?_) hready hy (fun _=>hS) ?_
  ·have h7:=h5 j (List.mem_range.2 (Array.getElem?_eq_some_iff.1 hoj).1)
   simp only [Bool.or_eq_true,beq_iff_eq] at h7
   rcases h7 with ((h7 | h7) | h7) | h7
   ·exact absurd h7 hju
   ·exfalso
    have h8 : l.getD j false = true:=by
     rcases h7 with ((h7 | h7) | h7) | h7
     ·rw [h7];exact hi
     ·exact hdone j (List.contains_iff_mem.1 h7)
     ·exact hl0 j h7
     ·exact hp j (List.contains_iff_mem.1 h7)
    rw [Zd4 h8] at hjl
    cases hjl
   ·exfalso
    have h8:=List.contains_iff_mem.1 h7;unfold Za2 at h8;rw [hoj] at h8;obtain ⟨e,he,he2⟩:=List.mem_map.1 h8;rw [List.mem_filter] at he;exact hnw e (by simpa using he.1) he.2 he2
   ·rw [ho,hoj] at h7;exact h7
  ·rw [hdst,Zjg hdn hnd]
   refine ih (u :: done) (l.setIfInBounds u true) (upd ν (Za5 ops u) v) h6 (fun x hx=>hR x (List.mem_cons_of_mem _ hx)) (fun x hx=>hL x (List.mem_cons_of_mem _ hx)) (fun x hx=>?_) (by simp;exact hsz) n2 (fun p hp2=>Zat (hl0 p hp2)) (Zat hi) (fun p hp2=>Zat (hp p hp2)) (fun x hx=>?_) hS ?_ (fun ν' k1 k2=>?_)
   ·rw [Go.getD_set_ne true (fun e : u = x=>n1 (e ▸ hx))]
    exact hun x (List.mem_cons_of_mem _ hx)
   ·rcases List.mem_cons.1 hx with rfl | hx
    ·exact Zgg (by omega)
    ·exact Zat (hdone x hx)
   ·rw [hdst,Zjg hdn hnd] at htr2
    exact htr2
   ·refine h ν' (fun k hk=>?_) (fun x hx=>?_)
    ·rw [k1 k (fun x hx=>hk x (List.mem_cons_of_mem _ hx))]
     simp only [upd,if_neg (Ne.symm (hk u (List.mem_cons_self ..)))]
    ·rcases List.mem_cons.1 hx with rfl | hx
     ·have h9 : ∀ y ∈ us,Za5 ops y ≠ Za5 ops x:=fun y hy=>Zey hnd (hR y (List.mem_cons_of_mem _ hy)) (hR x (List.mem_cons_self ..)) (fun e=>n1 (e ▸ hy))
      rw [k1 _ h9];simp only [upd,if_true];exact hΦ
     ·exact k2 x hx
theorem Zle {us : List Nat} {l : Array Bool} {k : Nat} (h : (Zba us l).getD k false = true) : k ∈ us \/ l.getD k false = true:=by
 induction us generalizing l with
 | nil=>exact .inr h
 | cons u us ih =>
  rcases ih (l:=l.setIfInBounds u true) h with h1 | h1
  ·exact .inl (List.mem_cons_of_mem _ h1)
  ·by_cases hk : u = k
   ·exact .inl (hk ▸ List.mem_cons_self ..)
   ·rw [Go.getD_set_ne false hk] at h1;exact .inr h1
theorem Zgf {us : List Nat} {l : Array Bool} {k : Nat} (h : (Zba us l).getD k true = false) : l.getD k true = false:=by
 rw [Zbw] at h
 split at h
 ·cases h
 ·exact h
theorem Zh4 {att : Nat -> List Nat} : ∀ (R : List Nat) (l0 : Array Bool),Zq9 md ops att R l0 = true -> (∀ r ∈ R,l0.getD r true = false /\ ∃ o d,ops[r]? = some o /\ o.dst = some d) /\
      ∀ l : Array Bool,l.size = l0.size -> (∀ k,l0.getD k false = true -> l.getD k false = true) -> (∀ r ∈ R,l.getD r true = true -> ∀ u ∈ att r,l.getD u false = true) -> (∃ r ∈ R,l.getD r true = false) -> ∃ r ∈ R,l.getD r true = false /\ ∀ p ∈ Za2 md ops r,l.getD p false = true
 | [],_,_=>⟨fun r hr=>(by cases hr),fun l _ _ _ ⟨r,hr,_⟩=>(by cases hr)⟩
 | r :: R,l0,h=>by
  simp only [Zq9,Bool.and_eq_true,Bool.not_eq_true',List.all_eq_true] at h;obtain ⟨⟨⟨h1,h2⟩,h3⟩,h4⟩:=h;obtain ⟨k1,k2⟩:=Zh4 R _ h4;refine ⟨fun x hx=>?_,fun l hsz hl hat hu=>?_⟩
  ·rcases List.mem_cons.1 hx with rfl | hx
   ·refine ⟨h1,?_⟩
    cases ho : ops[x]? with
    | none=>rw [ho] at h2;cases h2
    | some o =>
     rw [ho] at h2;obtain ⟨d,hd⟩:=Option.isSome_iff_exists.1 h2;exact ⟨o,d,rfl,hd⟩
   ·obtain ⟨m1,m2⟩:=k1 x hx
    exact ⟨Zgf m1,m2⟩
  ·by_cases hr : l.getD r true = false
   ·exact ⟨r,List.mem_cons_self ..,hr,fun p hp=>hl p (h3 p hp)⟩
   ·have hr2 : l.getD r true = true:=by simpa using hr
    have hrs : r < l0.size:=by
     rcases Nat.lt_or_ge r l0.size with h' | h'
     ·exact h'
     ·rw [Array.getD_eq_getD_getElem?,Array.getElem?_eq_none h'] at h1;cases h1
    have hrl : r < l.size:=by omega
    have hrf : l.getD r false = true:=by
     rw [Array.getD_eq_getD_getElem?,Array.getElem?_eq_getElem hrl] at hr2 ⊢;exact hr2
    obtain ⟨x,hx,hx2⟩:=k2 l (by rw [Zfs];exact hsz) (fun k hk=>by
     rcases Zle hk with h5 | h5
     ·rcases List.mem_cons.1 h5 with rfl | h5
      ·exact hrf
      ·exact hat r (List.mem_cons_self ..) hr2 k h5
     ·exact hl k h5) (fun y hy=>hat y (List.mem_cons_of_mem _ hy)) (by
     obtain ⟨y,hy,hy2⟩:=hu
     rcases List.mem_cons.1 hy with rfl | hy
     ·exact absurd hy2 hr
     ·exact ⟨y,hy,hy2⟩)
    exact ⟨x,List.mem_cons_of_mem _ hx,hx2⟩
theorem Znh {R : List Nat} (hn : Zbo R = true) : ∀ (us : List Nat) (l : Array Bool),Zbo us = true -> (∀ u ∈ us,u ∈ R) -> (∀ u ∈ us,l.getD u true = false) -> Zd0 R (Zba us l) + us.length = Zd0 R l:=by
 intro us
 induction us with
 | nil=>intro l _ _ _;rfl
 | cons u us ih =>
  intro l h1 h2 h3;obtain ⟨n1,n2⟩:=Zbk h1;have h4:=Zkd hn (h2 u (List.mem_cons_self ..)) (h3 u (List.mem_cons_self ..))
  have h5:=ih (l.setIfInBounds u true) n2 (fun x hx=>h2 x (List.mem_cons_of_mem _ hx)) (fun x hx=>by
   rw [Go.getD_set_ne true (fun e : u = x=>n1 (e ▸ hx))]
   exact h3 x (List.mem_cons_of_mem _ hx))
  show Zd0 R (Zba us (l.setIfInBounds u true)) + (us.length + 1) = _;omega
theorem Zd3 : ∀ {a b : List Nat},Zbo (a ++ b) = true -> Zbo b = true
 | [],_,h=>h
 | _ :: a,_,h=>Zd3 (a:=a) (Zbk h).2
theorem Zeg : ∀ {a b : List Nat},Zbo (a ++ b) = true -> Zbo a = true
 | [],_,_=>rfl
 | x :: a,b,h=>by
  obtain ⟨h1,h2⟩:=Zbk (x:=x) (l:=a ++ b) h;simp only [Zbo,Bool.and_eq_true,Bool.not_eq_true'];refine ⟨?_,Zeg h2⟩
  cases hc : a.contains x with
  | false=>rfl
  | true=>exact absurd (List.mem_append_left _ (List.contains_iff_mem.1 hc)) h1
theorem Zjq : ∀ {a b : List Nat},Zbo (a ++ b) = true -> ∀ x,x ∈ a -> x ∉ b
 | [],_,_,x,hx=>by cases hx
 | y :: a,b,h,x,hx=>by
  obtain ⟨h1,h2⟩:=Zbk (x:=y) (l:=a ++ b) h
  rcases List.mem_cons.1 hx with hx' | hx'
  ·intro hb;exact h1 (List.mem_append_right _ (hx' ▸ hb))
  ·exact Zjq h2 x hx'
theorem Zpb {att : Nat -> List Nat} : ∀ {R : List Nat},Zbo (Za3 R att) = true -> ∀ r ∈ R,Zbo (r :: att r) = true /\ ∀ r' ∈ R,r' ≠ r -> ∀ x ∈ r :: att r,x ∉ r' :: att r'
 | [],_,r,hr=>by cases hr
 | y :: R,h,r,hr=>by
  have e : Za3 (y :: R) att = (y :: att y) ++ Za3 R att:=rfl;rw [e] at h;have h1:=Zeg h;have h2:=Zd3 h;have h3:=Zjq h
  have hmem : ∀ z ∈ R,∀ x ∈ z :: att z,x ∈ Za3 R att:=fun z hz x hx=>List.mem_flatMap.2 ⟨z,hz,hx⟩
  by_cases hry : r = y
  ·subst hry
   refine ⟨h1,fun r' hr' hne x hx hx2=>?_⟩
   rcases List.mem_cons.1 hr' with h4 | h4
   ·exact hne h4
   ·exact h3 x hx (hmem r' h4 x hx2)
  ·have hrR : r ∈ R:=by
     rcases List.mem_cons.1 hr with h4 | h4
     ·exact absurd h4 hry
     ·exact h4
   obtain ⟨k1,k2⟩:=Zpb h2 r hrR;refine ⟨k1,fun r' hr' hne x hx hx2=>?_⟩
   by_cases hr'y : r' = y
   ·subst hr'y
    exact h3 x hx2 (hmem r hrR x hx)
   ·rcases List.mem_cons.1 hr' with h4 | h4
    ·exact hr'y h4
    ·exact k2 r' h4 hne x hx hx2
theorem Zul (R : List Nat) (att : Nat -> List Nat) (D : List Nat) (hDR : ∀ i ∈ D,i ∈ R) (Φ : Nat -> Value -> World -> Prop) {l0 : Array Bool} {a0 : Act} {w0 : World} (hok : Zj8 md ops R att l0 = true) (hL : ∀ u ∈ Za3 R att,u ∉ L)
    (hst : ∀ i ∈ Za3 R att,∀ v w w',Below w.heap.size w w' -> Φ i v w -> Φ i v w') (hS : ∀ w',Below w0.heap.size w0 w' -> S w') {F : Nat}
    (hop : ∀ i ∈ R,∀ (ν : Nat -> Value) (w : World),Below w0.heap.size w0 w -> (∀ j ∈ Za3 R att,j ∈ Za2 md ops i -> Φ j (ν (Za5 ops j)) w) ->
     wpOp P ops (OnlyNormal Q) i (fun a' w'=>∃ v,a' = (Zav ((Za3 R att).map (Za5 ops)) a0 ν).put (some (Za5 ops i)) v /\ Φ i v w' /\ Below w.heap.size w w' /\ Zow P ops Φ w' (att i) a' /\ (i ∈ D -> ∀ j ∈ D,∀ u,Φ j u w -> v ≠ u)) (Zav ((Za3 R att).map (Za5 ops)) a0 ν) w)
    (hfin : ∀ (ν : Nat -> Value) (w : World),Below w0.heap.size w0 w -> (∀ i ∈ Za3 R att,Φ i (ν (Za5 ops i)) w) -> (∀ i ∈ D,∀ j ∈ D,i ≠ j -> ν (Za5 ops i) ≠ ν (Za5 ops j)) -> Zag P md ops (OnlyNormal Q) L S F (Zba (Za3 R att) l0) (Zav ((Za3 R att).map (Za5 ops)) a0 ν) w) :
    ∀ (n : Nat) (l : Array Bool) (ν : Nat -> Value) (w : World),n = Zd0 (Za3 R att) l -> l.size = l0.size -> (∀ k,k ∉ Za3 R att -> l.getD k true = l0.getD k true) -> (∀ k,l0.getD k false = true -> l.getD k false = true) ->
     (∀ r ∈ Za3 R att,l.getD r false = true -> ∀ p ∈ Za2 md ops r,l.getD p false = true) ->
     (∀ r ∈ R,∀ u ∈ att r,(l.getD r true = true -> l.getD u false = true) /\ (l.getD r true = false -> l.getD u true = false)) -> Below w0.heap.size w0 w -> (∀ r ∈ Za3 R att,l.getD r true = true -> Φ r (ν (Za5 ops r)) w) -> (∀ i ∈ D,∀ j ∈ D,i ≠ j -> l.getD i true = true -> l.getD j true = true -> ν (Za5 ops i) ≠ ν (Za5 ops j)) ->
     Zag P md ops (OnlyNormal Q) L S (n + F) l (Zav ((Za3 R att).map (Za5 ops)) a0 ν) w:=by
 simp only [Zj8,Bool.and_eq_true,decide_eq_true_eq] at hok;obtain ⟨⟨⟨⟨⟨hto,hou⟩,hnd⟩,hsz0⟩,hato⟩,hns⟩:=hok;rw [List.all_eq_true] at hato;obtain ⟨t1,t2⟩:=Zh4 R l0 hto;have hndf:=Zkk hnd
 have hmemR : ∀ r ∈ R,r ∈ Za3 R att:=fun r hr=>List.mem_flatMap.2 ⟨r,hr,List.mem_cons_self ..⟩
 have hmemU : ∀ r ∈ R,∀ u ∈ att r,u ∈ Za3 R att:=fun r hr u hu=>List.mem_flatMap.2 ⟨r,hr,List.mem_cons_of_mem _ hu⟩
 have hattp : ∀ r ∈ R,∀ u ∈ att r,r ∈ Za2 md ops u /\ (∃ o,ops[u]? = some o):=fun r hr=>by
  have : ∀ (us done : List Nat),Zhg md ops l0 r us done = true -> ∀ u ∈ us,r ∈ Za2 md ops u /\ (∃ o,ops[u]? = some o):=by
   intro us
   induction us with
   | nil=>intro _ _ u hu;cases hu
   | cons x us ih =>
    intro done h u hu;simp only [Zhg,Bool.and_eq_true] at h
    rcases List.mem_cons.1 hu with rfl | hu
    ·refine ⟨List.contains_iff_mem.1 h.1.1.1.1.2,?_⟩
     cases ho : ops[u]? with
     | none=>have:=h.1.1.1.1.1;rw [ho] at this;cases this
     | some o=>exact ⟨o,rfl⟩
    ·exact ih _ h.2 u hu
  exact this (att r) [] (hato r hr)
 intro n
 induction n using Nat.strongRecOn with
 | _ n ih =>
  intro l ν w hn hsz hK hM hD hA hb hΦ hNE
  have hsize : ∀ r ∈ Za3 R att,r < l.size:=fun x hx=>by
   obtain ⟨r,hr,hx2⟩:=List.mem_flatMap.1 hx
   rcases List.mem_cons.1 hx2 with rfl | hx2
   ·obtain ⟨-,o,d,ho,-⟩:=t1 x hr
    have:=(Array.getElem?_eq_some_iff.1 ho).1;omega
   ·obtain ⟨-,o,ho⟩:=hattp r hr x hx2
    have:=(Array.getElem?_eq_some_iff.1 ho).1;omega
  have htf : ∀ k,k < l.size -> l.getD k true = true -> l.getD k false = true:=fun k hk h=>by
   rw [Array.getD_eq_getD_getElem?,Array.getElem?_eq_getElem hk] at h ⊢;exact h
  by_cases hex : ∃ r ∈ R,l.getD r true = false
  ·obtain ⟨r,hr,hr1,hr2⟩:=t2 l hsz hM (fun r hr h u hu=>(hA r hr u hu).1 h) hex
   obtain ⟨-,o,d,ho,-⟩:=t1 r hr;have hready:=Zgr (md:=md) hr1 ho hr2
   obtain ⟨m,rfl⟩ : ∃ m,n = m + 1:=by
    have:=Zkd hndf (hmemR r hr) hr1;exact ⟨Zd0 (Za3 R att) (l.setIfInBounds r true),by omega⟩
   rw [Nat.add_right_comm];refine ⟨fun h0=>(by rw [h0] at hready;cases hready),fun i hi=>?_⟩;obtain ⟨hi1,hi2,hi3⟩:=Zkj hi
   have hiF : i ∈ Za3 R att:=by
    apply Classical.byContradiction
    intro hni;unfold Zuh at hou;rw [List.all_eq_true] at hou;have h1:=hou i (List.mem_range.2 hi2);simp only [Bool.or_eq_true,List.any_eq_true,List.all_eq_true,Bool.and_eq_true,Bool.not_eq_true'] at h1
    rcases h1 with ((h1 | h1) | ⟨p,hp,h2,h3⟩) | h1
    ·exact hni (List.contains_iff_mem.1 h1)
    ·rw [hK i hni,h1] at hi1;cases hi1
    ·have hpR : p ∉ Za3 R att:=fun h=>by rw [List.contains_iff_mem.2 h] at h2;cases h2
     have h4:=hi3 p hp;have h5:=Zd4 h4;rw [hK p hpR] at h5
     have hps : p < l.size:=by
      rcases Nat.lt_or_ge p l.size with h' | h'
      ·exact h'
      ·rw [Array.getD_eq_getD_getElem?,Array.getElem?_eq_none h'] at h4;cases h4
     rw [Array.getD_eq_getD_getElem?,Array.getElem?_eq_getElem (by omega)] at h5 h3;simp only [Option.getD_some] at h5 h3;rw [h5] at h3;cases h3
    ·have h2:=Zpq (md:=md) (ops:=ops) (l:=l) (R:=Za3 R att) hD (Za3 R att).reverse (Za2 md ops i) (fun r hr=>List.mem_reverse.1 hr) hi3
     have h3:=Zd4 (h2 r (List.contains_iff_mem.1 (h1 r hr)));rw [hr1] at h3;cases h3
   have hiR : i ∈ R:=by
    obtain ⟨r',hr',hx⟩:=List.mem_flatMap.1 hiF
    rcases List.mem_cons.1 hx with rfl | hx
    ·exact hr'
    ·exfalso
     have h1:=Zd4 (hi3 r' (hattp r' hr' i hx).1);have h2:=Zd4 ((hA r' hr' i hx).1 h1);rw [hi1] at h2;cases h2
   have hdn : Za5 ops i ∈ (Za3 R att).map (Za5 ops):=List.mem_map.2 ⟨i,hiF,rfl⟩;obtain ⟨own1,own2⟩:=Zpb hndf i hiR;obtain ⟨ni,nus⟩:=Zbk own1;refine wpOp_mono (fun a' w' h=>?_) (hop i hiR ν w hb fun j hj hp=>hΦ j hj (Zd4 (hi3 j hp)));obtain ⟨v,rfl,hv,hb2,htr,hne⟩:=h;have hb3:=hb.trans (hb2.mono hb.size);refine ⟨fun _=>hS _ hb3,?_⟩;rw [Zjg hdn hnd] at htr ⊢;have hset : (l.setIfInBounds i true).getD i false = true:=Zgg (hsize i hiF)
   have hund : ∀ u ∈ att i,(l.setIfInBounds i true).getD u true = false:=fun u hu=>by
    rw [Go.getD_set_ne true (fun e : i = u=>ni (e ▸ hu))];exact (hA i hiR u hu).2 hi1
   have hlt:=Zkd hndf hiF hi1;have hlm:=Znh hndf (att i) (l.setIfInBounds i true) nus (hmemU i hiR) hund
   have hm : m = (att i).length + Zd0 (Za3 R att) (Zba (att i) (l.setIfInBounds i true)):=by omega
   rw [hm,Nat.add_assoc];refine Zqh (R:=Za3 R att) hns hnd hiF (att i) [] (l.setIfInBounds i true) _ (hato i hiR) (hmemU i hiR) (fun u hu=>hL u (hmemU i hiR u hu)) hund (by simp;omega) nus (fun p hp=>Zat (hM p hp)) hset (fun p hp=>Zat (hi3 p hp)) (fun u hu=>by cases hu) (hS _ hb3) htr (fun ν' k1 k2=>?_)
   have hνi : ν' (Za5 ops i) = v:=by
    rw [k1 _ (fun u hu=>Zey hnd (hmemU i hiR u hu) hiF (fun e=>ni (e ▸ hu)))];simp only [upd,if_true]
   have hνo : ∀ x ∈ Za3 R att,x ≠ i -> x ∉ att i -> ν' (Za5 ops x) = ν (Za5 ops x):=fun x hx h1 h2=>by
    rw [k1 _ (fun u hu=>Zey hnd (hmemU i hiR u hu) hx (fun e=>h2 (e ▸ hu)))];simp only [upd,if_neg (Zey hnd hx hiF h1)]
   refine ih _ (by omega) (Zba (att i) (l.setIfInBounds i true)) ν' w' rfl (by rw [Zfs];simp;exact hsz) (fun k hk=>?_) (fun k hk=>Zbt (Zat (hM k hk))) (fun x hx hxt p hp=>?_) (fun r' hr' u hu=>?_) hb3 (fun x hx hxt=>?_) (fun a ha b hb' hab hat hbt=>?_)
   ·rw [Zbw,if_neg (fun h=>hk (hmemU i hiR k h)),Go.getD_set_ne true (fun e : i = k=>hk (e ▸ hiF))]
    exact hK k hk
   ·rcases Zle hxt with h1 | h1
    ·-- an operation of the train
     have h2 : ∀ (us done : List Nat),Zhg md ops l0 i us done = true -> (∀ u ∈ done,(Zba (att i) (l.setIfInBounds i true)).getD u false = true) -> (∀ u ∈ us,u ∈ att i) -> ∀ u ∈ us,∀ p ∈ Za2 md ops u,(Zba (att i) (l.setIfInBounds i true)).getD p false = true:=by
      intro us
      induction us with
      | nil=>intro _ _ _ _ u hu;cases hu
      | cons y us ihu =>
       intro done h hd hall u hu p hp;simp only [Zhg,Bool.and_eq_true,List.all_eq_true] at h
       rcases List.mem_cons.1 hu with rfl | hu
       ·have h7:=h.1.1.2 p hp
        simp only [Bool.or_eq_true,beq_iff_eq] at h7
        rcases h7 with ((h7 | h7) | h7) | h7
        ·rw [h7];exact Zbt hset
        ·exact hd p (List.contains_iff_mem.1 h7)
        ·exact Zbt (Zat (hM p h7))
        ·exact Zbt (Zat (hi3 p (List.contains_iff_mem.1 h7)))
       ·refine ihu (y :: done) h.2 (fun z hz=>?_) (fun z hz=>hall z (List.mem_cons_of_mem _ hz)) u hu p hp
        rcases List.mem_cons.1 hz with rfl | hz
        ·exact Zk5 (hall z (List.mem_cons_self ..)) (by simp;exact hsize z (hmemU i hiR z (hall z (List.mem_cons_self ..))))
        ·exact hd z hz
     exact h2 (att i) [] (hato i hiR) (fun u hu=>by cases hu) (fun u hu=>hu) x h1 p hp
    ·by_cases hxi : i = x
     ·subst hxi;exact Zbt (Zat (hi3 p hp))
     ·rw [Go.getD_set_ne false hxi] at h1
      exact Zbt (Zat (hD x hx h1 p hp))
   ·by_cases hri : r' = i
    ·subst hri
     refine ⟨fun _=>Zk5 hu (by simp;exact hsize u (hmemU r' hr' u hu)),fun h=>?_⟩;have h1:=Zgf h;rw [Zd4 hset] at h1;cases h1
    ·have hd1:=own2 r' hr' hri
     have hu1 : u ∉ att i:=fun h=>hd1 u (List.mem_cons_of_mem _ h) (List.mem_cons_of_mem _ hu)
     have hu2 : i ≠ u:=fun h=>hd1 i (List.mem_cons_self ..) (h ▸ List.mem_cons_of_mem _ hu)
     have hr1' : r' ∉ att i:=fun h=>hd1 r' (List.mem_cons_of_mem _ h) (List.mem_cons_self ..)
     refine ⟨fun h=>?_,fun h=>?_⟩
     ·rw [Zbw,if_neg hr1',Go.getD_set_ne true (Ne.symm hri)] at h
      exact Zbt (Zat ((hA r' hr' u hu).1 h))
     ·rw [Zbw,if_neg hr1',Go.getD_set_ne true (Ne.symm hri)] at h
      rw [Zbw,if_neg hu1,Go.getD_set_ne true hu2];exact (hA r' hr' u hu).2 h
   ·by_cases hxi : x = i
    ·subst hxi;rw [hνi];exact hv
    ·by_cases hxa : x ∈ att i
     ·exact k2 x hxa
     ·rw [hνo x hx hxi hxa]
      rw [Zbw,if_neg hxa,Go.getD_set_ne true (Ne.symm hxi)] at hxt;exact hst x hx _ _ _ hb2 (hΦ x hx hxt)
   ·have hDa : ∀ x ∈ D,x ∉ att i:=fun x hx h=>by
      by_cases hxi : x = i
      ·exact ni (hxi ▸ h)
      ·exact own2 x (hDR x hx) hxi x (List.mem_cons_of_mem _ h) (List.mem_cons_self ..)
    have hold : ∀ x ∈ D,x ≠ i -> (Zba (att i) (l.setIfInBounds i true)).getD x true = true -> ν' (Za5 ops x) = ν (Za5 ops x) /\ l.getD x true = true:=fun x hx hxi h=>by
     rw [Zbw,if_neg (hDa x hx),Go.getD_set_ne true (Ne.symm hxi)] at h;exact ⟨hνo x (hmemR x (hDR x hx)) hxi (hDa x hx),h⟩
    by_cases hai : a = i
    ·have hbi : b ≠ i:=fun h=>hab (hai.trans h.symm)
     obtain ⟨e1,e2⟩:=hold b hb' hbi hbt;rw [hai,hνi,e1];exact hne (hai ▸ ha) b hb' _ (hΦ b (hmemR b (hDR b hb')) e2)
    ·obtain ⟨e1,e2⟩:=hold a ha hai hat
     by_cases hbi : b = i
     ·rw [hbi,hνi,e1]
      exact fun h=>hne (hbi ▸ hb') a ha _ (hΦ a (hmemR a (hDR a ha)) e2) h.symm
     ·obtain ⟨e3,e4⟩:=hold b hb' hbi hbt
      rw [e1,e3];exact hNE a ha b hb' hab e2 e4
  ·have hall : ∀ x ∈ Za3 R att,l.getD x true = true:=fun x hx=>by
     obtain ⟨r,hr,hx2⟩:=List.mem_flatMap.1 hx
     have h1 : l.getD r true = true:=by
      cases h : l.getD r true with
      | true=>rfl
      | false=>exact absurd ⟨r,hr,h⟩ hex
     rcases List.mem_cons.1 hx2 with rfl | hx2
     ·exact h1
     ·exact Zd4 ((hA r hr x hx2).1 h1)
   have h0 : Zd0 (Za3 R att) l = 0:=by
    unfold Zd0;rw [List.length_eq_zero_iff,List.filter_eq_nil_iff];intro r hr;rw [hall r hr];simp
   have : l = Zba (Za3 R att) l0:=by
    refine Zp6 (by rw [Zfs];exact hsz) fun k=>?_
    rw [Zbw]
    by_cases hk : k ∈ Za3 R att
    ·rw [if_pos hk];exact hall k hk
    ·rw [if_neg hk];exact hK k hk
   subst this;rw [hn,h0,Nat.zero_add];exact hfin ν w hb (fun i hi=>hΦ i hi (hall i hi)) (fun i hi j hj hij=>hNE i hi j hj hij (hall i (hmemR i (hDR i hi))) (hall j (hmemR j (hDR j hj))))
theorem Zo2 (DP : List (Nat × Nat)) (RP : List (Nat × Nat)) (att : Nat -> List Nat) (FP : List (Nat × Nat)) (Φ : Nat -> Value -> World -> Prop) (F : Nat) {l0 : Array Bool} {a0 : Act} {w0 : World}
    (hok : (Zj8 md ops (RP.map (·.1)) att l0 && (Za3 (RP.map (·.1)) att == FP.map (·.1)) && FP.all (fun p=>Za5 ops p.1 == p.2) && RP.all (fun p=>Za5 ops p.1 == p.2) && FP.all (fun p=>!L.contains p.1) && DP.all (fun p=>RP.contains p)) = true)
    (hst : ∀ p ∈ FP,∀ v w w',Below w.heap.size w w' -> Φ p.1 v w -> Φ p.1 v w') (hS : ∀ w',Below w0.heap.size w0 w' -> S w')
    (hop : ∀ p ∈ RP,∀ (ν : Nat -> Value) (w : World),Below w0.heap.size w0 w -> (∀ q ∈ FP,(Za2 md ops p.1).contains q.1 = true -> Φ q.1 (ν q.2) w) ->
     wpOp P ops (OnlyNormal Q) p.1 (fun a' w'=>∃ v,a' = (Zav (FP.map (·.2)) a0 ν).put (some p.2) v /\ Φ p.1 v w' /\ Below w.heap.size w w' /\ Zow P ops Φ w' (att p.1) a' /\ (p ∈ DP -> ∀ q ∈ DP,∀ u,Φ q.1 u w -> v ≠ u)) (Zav (FP.map (·.2)) a0 ν) w)
    (hfin : ∀ (ν : Nat -> Value) (w : World),Below w0.heap.size w0 w -> (∀ p ∈ FP,Φ p.1 (ν p.2) w) -> (∀ p ∈ DP,∀ q ∈ DP,p ≠ q -> ν p.2 ≠ ν q.2) -> Zag P md ops (OnlyNormal Q) L S F (Zba (FP.map (·.1)) l0) (Zav (FP.map (·.2)) a0 ν) w) :
    Zag P md ops (OnlyNormal Q) L S (FP.length + F) l0 a0 w0:=by
 simp only [Bool.and_eq_true,beq_iff_eq] at hok;obtain ⟨⟨⟨⟨⟨h1,h2⟩,h3⟩,h4⟩,h5⟩,h6⟩:=hok;rw [List.all_eq_true] at h6;have hD:=Zpc (ops:=ops) FP h3;rw [<- h2] at hD;rw [List.all_eq_true] at h3 h4 h5
 have hmem : ∀ i,i ∈ Za3 (RP.map (·.1)) att -> ∃ p ∈ FP,p.1 = i:=fun i hi=>by
  rw [h2] at hi;exact List.mem_map.1 hi
 have hall:=h1;simp only [Zj8,Bool.and_eq_true,decide_eq_true_eq] at h1;obtain ⟨⟨⟨⟨⟨hto,-⟩,hnd⟩,hsz0⟩,hato⟩,-⟩:=h1;obtain ⟨t1,-⟩:=Zh4 _ l0 hto
 have hund : ∀ i ∈ Za3 (RP.map (·.1)) att,l0.getD i true = false:=fun x hx=>by
  obtain ⟨r,hr,hx2⟩:=List.mem_flatMap.1 hx
  rcases List.mem_cons.1 hx2 with rfl | hx2
  ·exact (t1 x hr).1
  ·rw [List.all_eq_true] at hato
   have : ∀ (us done : List Nat),Zhg md ops l0 r us done = true -> ∀ u ∈ us,l0.getD u true = false:=by
    intro us
    induction us with
    | nil=>intro _ _ u hu;cases hu
    | cons y us ih =>
     intro done h u hu;simp only [Zhg,Bool.and_eq_true,Bool.not_eq_true'] at h
     rcases List.mem_cons.1 hu with rfl | hu
     ·exact h.1.1.1.2
     ·exact ih _ h.2 u hu
   exact this _ _ (hato r hr) x hx2
 have hlen : Zd0 (Za3 (RP.map (·.1)) att) l0 = FP.length:=by
  unfold Zd0;rw [List.filter_eq_self.2 (fun r hr=>by rw [hund r hr];rfl),h2,List.length_map]
 have h:=Zul (P:=P) (ops:=ops) (Q:=Q) (md:=md) (L:=L) (S:=S) (RP.map (·.1)) att (DP.map (·.1)) (fun i hi=>by
  obtain ⟨p,hp,rfl⟩:=List.mem_map.1 hi
  exact List.mem_map.2 ⟨p,List.contains_iff_mem.1 (h6 p hp),rfl⟩) Φ (F:=F) (a0:=a0) (w0:=w0) hall (fun u hu=>by
  obtain ⟨p,hp,rfl⟩:=hmem u hu;have:=h5 p hp;intro hc;rw [List.contains_iff_mem.2 hc] at this
  cases this) (fun i hi=>by
  obtain ⟨p,hp,rfl⟩:=hmem i hi
  exact hst p hp) hS (fun i hi ν w hb hP=>by
  obtain ⟨p,hp,rfl⟩:=List.mem_map.1 hi
  have:=hop p hp ν w hb (fun q hq hc=>by
   have hq2:=hP q.1 (by rw [h2];exact List.mem_map.2 ⟨q,hq,rfl⟩) (List.contains_iff_mem.1 hc);have e:=h3 q hq;simp only [beq_iff_eq] at e;rw [e] at hq2
   exact hq2)
  have e:=h4 p hp;simp only [beq_iff_eq] at e;rw [hD,e];refine wpOp_mono (fun a' w' h=>?_) this;obtain ⟨v,k1,k2,k3,k4,k5⟩:=h;refine ⟨v,k1,k2,k3,k4,fun hi j hj u hu=>?_⟩;obtain ⟨p',hp',hpe⟩:=List.mem_map.1 hi;obtain ⟨q',hq',rfl⟩:=List.mem_map.1 hj;have e1:=h4 p' (List.contains_iff_mem.1 (h6 p' hp'));simp only [beq_iff_eq] at e1;have : p' = p:=Prod.ext hpe (by rw [<- e1,<- e,hpe])
  exact k5 (this ▸ hp') q' hq' u hu) (fun ν w hb hf hne=>by
  rw [hD,h2]
  exact hfin ν w hb (fun p hp=>by
   have hq2:=hf p.1 (by rw [h2];exact List.mem_map.2 ⟨p,hp,rfl⟩);have e:=h3 p hp;simp only [beq_iff_eq] at e;rw [e] at hq2
   exact hq2) (fun p hp q hq hpq=>by
   have e1:=h4 p (List.contains_iff_mem.1 (h6 p hp));have e2:=h4 q (List.contains_iff_mem.1 (h6 q hq));simp only [beq_iff_eq] at e1 e2;have:=hne p.1 (List.mem_map.2 ⟨p,hp,rfl⟩) q.1 (List.mem_map.2 ⟨q,hq,rfl⟩) (fun h=>hpq (Prod.ext h (by rw [<- e1,<- e2,h])));rw [e1,e2] at this
   exact this)) FP.length l0 (fun d=>a0.tmps.getD d undef) w0 hlen.symm rfl (fun _ _=>rfl) (fun _ h=>h)
  (fun r hr h=>by have h1:=Zd4 h;rw [hund r hr] at h1;cases h1)
  (fun r hr u hu=>⟨fun h=>(by rw [hund r (List.mem_flatMap.2 ⟨r,hr,List.mem_cons_self ..⟩)] at h;cases h),fun _=>hund u (List.mem_flatMap.2 ⟨r,hr,List.mem_cons_of_mem _ hu⟩)⟩)
  (Below.refl _ _) (fun r hr h=>by rw [hund r hr] at h;cases h)
  (fun i hi j hj _ h _=>by
   obtain ⟨p,hp,rfl⟩:=List.mem_map.1 hi;rw [hund p.1 (List.mem_flatMap.2 ⟨p.1,List.mem_map.2 ⟨p,List.contains_iff_mem.1 (h6 p hp),rfl⟩,List.mem_cons_self ..⟩)] at h
   cases h)
 rw [Zpw] at h;exact h
theorem Zbl (RP : List (Nat × Nat)) (att : Nat -> List Nat) (FP : List (Nat × Nat)) (Φ : Nat -> Value -> World -> Prop) (F : Nat) {l0 : Array Bool} {a0 : Act} {w0 : World}
    (hok : (Zj8 md ops (RP.map (·.1)) att l0 && (Za3 (RP.map (·.1)) att == FP.map (·.1)) && FP.all (fun p=>Za5 ops p.1 == p.2) && RP.all (fun p=>Za5 ops p.1 == p.2) && FP.all (fun p=>!L.contains p.1)) = true)
    (hst : ∀ p ∈ FP,∀ v w w',Below w.heap.size w w' -> Φ p.1 v w -> Φ p.1 v w') (hS : ∀ w',Below w0.heap.size w0 w' -> S w')
    (hop : ∀ p ∈ RP,∀ (ν : Nat -> Value) (w : World),Below w0.heap.size w0 w -> (∀ q ∈ FP,(Za2 md ops p.1).contains q.1 = true -> Φ q.1 (ν q.2) w) ->
     wpOp P ops (OnlyNormal Q) p.1 (fun a' w'=>∃ v,a' = (Zav (FP.map (·.2)) a0 ν).put (some p.2) v /\ Φ p.1 v w' /\ Below w.heap.size w w' /\ Zow P ops Φ w' (att p.1) a') (Zav (FP.map (·.2)) a0 ν) w)
    (hfin : ∀ (ν : Nat -> Value) (w : World),Below w0.heap.size w0 w -> (∀ p ∈ FP,Φ p.1 (ν p.2) w) -> Zag P md ops (OnlyNormal Q) L S F (Zba (FP.map (·.1)) l0) (Zav (FP.map (·.2)) a0 ν) w) :
    Zag P md ops (OnlyNormal Q) L S (FP.length + F) l0 a0 w0:=
 Zo2 [] RP att FP Φ F (by rw [hok];rfl) hst hS (fun p hp ν w hb hP=>wpOp_mono (fun a' w' h=>by
  obtain ⟨v,k1,k2,k3,k4⟩:=h
  exact ⟨v,k1,k2,k3,k4,fun h=>by cases h⟩) (hop p hp ν w hb hP)) (fun ν w hb hf _=>hfin ν w hb hf)
end
def Zae (B0 : Nat) (q : Rat) (ca mv x0 x1 al as_ : Nat) (i : Nat) (v : Value) (w : World) : Prop:=
 if i = ca \/ i = mv then ∃ na A n c nb B m d,v = .tuple #[.agg #[.bool na,.slice A n c,.bool nb,.slice B m d],.int .i64 0] /\ Fr w na A n c nb B m d q
 else if i = x0 then ∃ na A n c nb B m d,v = .agg #[.bool na,.slice A n c,.bool nb,.slice B m d] /\ Fr w na A n c nb B m d q
 else if i = x1 \/ i = as_ then v = .int .i64 0
 else if i = al then ∃ g,v = .pointer (some ⟨g,0,none⟩) /\ B0 <= g /\ Blk w g 45 #[.bool false,.slice none 0 0,.bool false,.slice none 0 0]
 else True
theorem Zgd {B0 : Nat} {q : Rat} {ca mv x0 x1 al as_ i : Nat} {v : Value} {w w' : World} (hb : Below w.heap.size w w') (h : Zae B0 q ca mv x0 x1 al as_ i v w) : Zae B0 q ca mv x0 x1 al as_ i v w':=by
 unfold Zae at h ⊢
 split at h
 ·rename_i h1;rw [if_pos h1]
  obtain ⟨na,A,n,c,nb,B,m,d,e,hf⟩:=h;exact ⟨na,A,n,c,nb,B,m,d,e,hf.below hb⟩
 ·rename_i h1;rw [if_neg h1]
  split at h
  ·rename_i h2;rw [if_pos h2]
   obtain ⟨na,A,n,c,nb,B,m,d,e,hf⟩:=h;exact ⟨na,A,n,c,nb,B,m,d,e,hf.below hb⟩
  ·rename_i h2;rw [if_neg h2]
   split at h
   ·rename_i h3;rw [if_pos h3];exact h
   ·rename_i h3;rw [if_neg h3]
    split at h
    ·rename_i h4;rw [if_pos h4]
     obtain ⟨g,e,h5,h6⟩:=h;exact ⟨g,e,h5,Zb hb h6⟩
    ·rename_i h4;rw [if_neg h4];trivial
theorem FOwn.keptG {t : TypeId} {w w' : World} {g : Nat} {qs : List Rat} {G : Nat -> Prop} (h : FOwn t w g qs) (hk : Kept G w w') (hg : ¬ G g) (hG : ∀ k,G k -> ∃ t cs,Blk w k t cs /\ NoLimb cs) : FOwn t w' g qs:=by
 obtain ⟨es,zs,h1,h2,h3⟩:=h;exact ⟨es,zs,hk.blk h1 hg,fun e he=>⟨hk.wd (h2 e he).1 hG,hk.wd (h2 e he).2 hG⟩,h3⟩
theorem Fr.zero_iff {w : World} {na : Bool} {A : Option Addr} {n c : Nat} {nb : Bool} {B : Option Addr} {m d : Nat} {r : Rat} (h : Fr w na A n c nb B m d r) : n = 0 ↔ r = 0:=by
 have h1:=h.1.lim.len;have h2:=length_digits_pos (v:=r.num.natAbs)
 constructor
 ·intro hn
  have : r.num = 0:=by omega
  exact Rat.num_eq_zero.1 this
 ·rintro rfl
  have : (0 : Rat).num.natAbs = 0:=rfl;omega
theorem Zcd (es fs : List WE) : Zai (es ++ fs) = Zai es ++ Zai fs:=by
 induction es with
 | nil=>rfl
 | cons e l ih=>simp only [List.cons_append,Zai,ih]
theorem Zqk (fs : List WE) : ∀ u ∈ Zai fs,u.oneCell' = true:=by
 induction fs with
 | nil=>intro u h;simp [Zai] at h
 | cons e l ih =>
  intro u h;simp only [Zai,List.mem_cons] at h
  rcases h with rfl | rfl | h
  ·rfl
  ·rfl
  ·exact ih u h
theorem Zhe (k : Nat) : (Builtin.zeroCells #[.bool false,.slice none 0 0] k).toList = Zai (List.replicate k Zb7):=by
 rw [Zjl];unfold Builtin.zeroCells madeCells
 apply List.ext_getElem?
 intro i
 by_cases h : i < k * 2
 ·simp [h]
 ·simp [h]
def RowW (t : TypeId) (w : World) (base : Nat) (v : Value) (es : List WE) : Prop:=
 (v = .slice none 0 0 /\ es = []) \/ ∃ g sp,v = .slice (some ⟨g,0,none⟩) es.length (es.length + sp) /\ base <= g /\ es.length + sp <= maxLen /\ Blk w g t (Zbc (es ++ List.replicate sp Zb7))
section
variable {t : TypeId} {w w' : World} {base : Nat} {v : Value} {es : List WE}
theorem RowW.own (h : RowW t w base v es) : w.ownsRow base t 2 v es.length (Zai es):=by
 refine ⟨Za0 es,?_⟩
 rcases h with ⟨h1,rfl⟩ | ⟨g,sp,h1,h2,h3,h4⟩
 ·exact .inl ⟨h1,rfl⟩
 ·refine .inr ⟨g,_,_,h1,h2,h4,Nat.le_add_right _ _,h3,?_,?_⟩
  ·simp [Zbc,Za0]
  ·simp only [Zbc]
   rw [Zcd,<- Za0 es];exact List.take_left
theorem RowW.row_ge (h : RowW t w base v es) : ∀ k,v.ownBlock = some k -> base <= k:=fun k hk=>(h.own.lt k hk).1
theorem RowW.kept (h : RowW t w base v es) (hb : Below w.heap.size w w') : RowW t w' base v es:=by
 rcases h with h | ⟨g,sp,h1,h2,h3,h4⟩
 ·exact .inl h
 ·exact .inr ⟨g,sp,h1,h2,h3,Zb hb h4⟩
theorem RowW.keep (h : RowW t w base v es) (hg : w.grownBy w' v.ownBlock) {A : Option Addr} {n c : Nat} {l : List Nat} (hL : Lim w A n c l) : Lim w' A n c l:=by
 refine ⟨hL.1,hL.2.1,hL.2.2.1,hL.2.2.2.1,fun hn=>?_⟩;obtain ⟨b,o,e,hc⟩:=hL.2.2.2.2 hn;refine ⟨b,o,e,fun k hk=>?_⟩;rw [<- hc k hk];refine World.cell?_of_block (hg.block b (Zp (hc k hk)) (fun e'=>?_))
 rcases h with ⟨rfl,_⟩ | ⟨g,sp,rfl,_,_,h4⟩
 ·cases e'
 ·have hbg : b = g:=by simpa [Value.ownBlock] using e'
  subst hbg;have h1:=hc k hk;rw [h4.cell] at h1;exact Zcu _ _ _ h1
end
section
variable {P : Program} (w : World)
end
def OwnP (t : TypeId) (w : World) (base : Nat) (v : Value) (xs : List Int) : Prop:=∃ es,RowW t w base v es /\ (∀ e ∈ es,Lim w e.A e.n e.c e.l /\ e.ok = true) /\ es.map WE.num = xs
section
variable {t : TypeId} {w w' : World} {base : Nat} {v : Value} {xs : List Int}
theorem OwnP.nil (t : TypeId) (w : World) (base : Nat) : OwnP t w base (.slice none 0 0) []:=⟨[],.inl ⟨rfl,rfl⟩,fun e h=>by simp at h,rfl⟩
theorem OwnP.kept (h : OwnP t w base v xs) (hb : Below w.heap.size w w') : OwnP t w' base v xs:=by
 obtain ⟨es,h1,h2,h3⟩:=h;exact ⟨es,h1.kept hb,fun e he=>⟨(h2 e he).1.below hb,(h2 e he).2⟩,h3⟩
theorem OwnP.row_ge (h : OwnP t w base v xs) : ∀ k,v.ownBlock = some k -> base <= k:=by obtain ⟨es,h1,_⟩:=h;exact h1.row_ge
theorem OwnP.poly (h : OwnP t w base v xs) : ∃ A c,v = .slice A xs.length c /\ PolyL w A xs.length c xs:=by
 obtain ⟨es,h1,h2,rfl⟩:=h
 rcases h1 with ⟨rfl,rfl⟩ | ⟨g,sp,rfl,h4,h5,h6⟩
 ·exact ⟨none,0,rfl,[],⟨rfl,Nat.le_refl _,Nat.zero_le _,fun h=>absurd h (by simp),fun e h=>by simp at h⟩,rfl,fun e h=>by simp at h⟩
 ·rw [List.length_map]
  refine ⟨_,es.length + sp,rfl,es,⟨rfl,Nat.le_add_right _ _,h5,fun _=>⟨g,0,rfl,fun k e he=>?_⟩,fun e he=>(h2 e he).1⟩,rfl,fun e he=>(h2 e he).2⟩;have hk : k < es.length:=(List.getElem?_eq_some_iff.1 he).1;have hc:=Zh2 (es:=es ++ List.replicate sp Zb7) (i:=k) (e:=e) (by rw [List.getElem?_append_left hk];exact he);rw [Nat.zero_add,h6.cell,h6.cell];exact hc
theorem Zbm (b : Bool) (A : Option Addr) (n c : Nat) : NoLimb #[.bool b,.slice A n c]:=fun i x=>by
 match i with
 | 0=>simp
 | 1=>simp
 | i + 2=>simp
theorem Wd.of_keep {neg : Bool} {A : Option Addr} {n c : Nat} {z : Int} (hk : ∀ (A : Option Addr) (n c : Nat) (l : List Nat),Lim w A n c l -> Lim w' A n c l) (h : Wd w neg A n c z) : Wd w' neg A n c z:=⟨h.1,h.2.1,hk _ _ _ _ h.2.2⟩
end
theorem OwnP.snoc {t : TypeId} {w : World} {base : Nat} {v : Value} {xs : List Int} {neg : Bool} {A : Option Addr} {n c : Nat} {z : Int} {W : World} (h : OwnP t w base v (xs ++ [⟨neg,A,n,c,digits z.natAbs⟩].map WE.num)) (hW : Wd W neg A n c z) : OwnP t w base v (xs ++ [z]):=by
 rw [List.map_cons,List.map_nil,show WE.num ⟨neg,A,n,c,digits z.natAbs⟩ = z from hW.sgEq] at h;exact h
section
variable {P : Program} (w : World)
end
structure RS where
 A : Option Addr
 n : Nat
 c : Nat
def RS.val (r : RS) : Value:=.slice r.A r.n r.c
def Zao : List RS -> List Value
 | []=>[]
 | e :: l=>.slice e.A e.n e.c :: Zao l
def Z2 (es : List RS) : Array Value:=(Zao es).toArray
def Zam : RS:=⟨none,0,0⟩
theorem Za4 (es : List RS) : (Zao es).length = es.length * 1:=by
 induction es with
 | nil=>rfl
 | cons e l ih=>simp only [Zao,List.length_cons,ih];omega
theorem Zb8 (es : List RS) : Zao es = es.map RS.val:=by
 induction es with
 | nil=>rfl
 | cons e l ih=>simp only [Zao,List.map_cons,ih];rfl
theorem Zqy {es : List RS} {i : Nat} {e : RS} (h : es[i]? = some e) : (Zao es)[i]? = some (.slice e.A e.n e.c):=by
 rw [Zb8,List.getElem?_map,h];rfl
theorem Zbi {es : List RS} {i : Nat} {e : RS} (h : es[i]? = some e) : (Z2 es)[i]? = some (.slice e.A e.n e.c):=by simpa [Z2] using Zqy h
theorem Zl0 (es : List RS) : ∀ (i x : Nat),(Zao es)[i]? ≠ some (limb x):=by
 intro i x;rw [Zb8,List.getElem?_map]
 cases es[i]? with
 | none=>simp
 | some e=>simp [RS.val]
theorem Zbb (es : List RS) : NoLimb (Z2 es):=fun i x=>by simpa [Z2] using Zl0 es i x
theorem Zca (es fs : List RS) : Zao (es ++ fs) = Zao es ++ Zao fs:=by simp only [Zb8,List.map_append]
theorem Zq0 (fs : List RS) : ∀ u ∈ Zao fs,u.oneCell' = true:=by
 intro u h;rw [Zb8] at h;obtain ⟨r,-,rfl⟩:=List.mem_map.1 h
 rfl
theorem Zdv {es : List RS} {i : Nat} (e : RS) : (Z2 es).setIfInBounds i (.slice e.A e.n e.c) = Z2 (es.set i e):=by
 unfold Z2;rw [Zb8,Zb8,List.map_set]
 simp [RS.val]
theorem Zhi (k : Nat) : (Builtin.zeroCells #[.slice none 0 0] k).toList = Zao (List.replicate k Zam):=by
 rw [Zb8];unfold Builtin.zeroCells
 apply List.ext_getElem?
 intro i
 by_cases h : i < k
 ·simp [h,Zam,RS.val,List.getElem?_replicate,Nat.mod_one]
 ·simp [h,List.getElem?_replicate]
def RowS (t : TypeId) (w : World) (base : Nat) (v : Value) (es : List RS) : Prop:=
 (v = .slice none 0 0 /\ es = []) \/ ∃ g sp,v = .slice (some ⟨g,0,none⟩) es.length (es.length + sp) /\ base <= g /\ es.length + sp <= maxLen /\ Blk w g t (Z2 (es ++ List.replicate sp Zam))
section
variable {t : TypeId} {w w' : World} {base : Nat} {v : Value} {es : List RS}
theorem RowS.own (h : RowS t w base v es) : w.ownsRow base t 1 v es.length (Zao es):=by
 refine ⟨Za4 es,?_⟩
 rcases h with ⟨h1,rfl⟩ | ⟨g,sp,h1,h2,h3,h4⟩
 ·exact .inl ⟨h1,rfl⟩
 ·refine .inr ⟨g,_,_,h1,h2,h4,Nat.le_add_right _ _,h3,?_,?_⟩
  ·simp [Z2,Za4]
  ·simp only [Z2]
   rw [Zca,<- Za4 es];exact List.take_left
theorem RowS.row_ge (h : RowS t w base v es) : ∀ k,v.ownBlock = some k -> base <= k:=fun k hk=>(h.own.lt k hk).1
theorem RowS.kept (h : RowS t w base v es) (hb : Below w.heap.size w w') : RowS t w' base v es:=by
 rcases h with h | ⟨g,sp,h1,h2,h3,h4⟩
 ·exact .inl h
 ·exact .inr ⟨g,sp,h1,h2,h3,Zb hb h4⟩
theorem RowS.keep (h : RowS t w base v es) (hg : w.grownBy w' v.ownBlock) {A : Option Addr} {n c : Nat} {l : List Nat} (hL : Lim w A n c l) : Lim w' A n c l:=by
 refine ⟨hL.1,hL.2.1,hL.2.2.1,hL.2.2.2.1,fun hn=>?_⟩;obtain ⟨b,o,e,hc⟩:=hL.2.2.2.2 hn;refine ⟨b,o,e,fun k hk=>?_⟩;rw [<- hc k hk];refine World.cell?_of_block (hg.block b (Zp (hc k hk)) (fun e'=>?_))
 rcases h with ⟨rfl,_⟩ | ⟨g,sp,rfl,_,_,h4⟩
 ·cases e'
 ·have hbg : b = g:=by simpa [Value.ownBlock] using e'
  subst hbg;have h1:=hc k hk;rw [h4.cell] at h1;exact Zbb _ _ _ h1
end
section
variable {P : Program} (w : World)
theorem Zku (base : Nat) (t ty e : TypeId) (i : TypeInfo) (ht : P.underlying t = some (.slice e)) (hi : P.info? e = some i) (hz : i.zero = some (.slice none 0 0))
    (hs : i.size = 1) (hby : i.bytes = 24) (v : Value) (es : List RS) (hown : RowS e w base v es)
    (B : Nat) (A : Option Addr) (m c : Nat) (fs : List RS) (hr : Reads w B 1 A m (Zao fs)) (hm : fs.length = m) (h63 : es.length + m <= 1000) (hbase : base <= w.heap.size) :
    ∃ v' w',(Builtin.append_ #[t,t] ty #[v,.slice A m c]).run P w = .ok v' w' /\ RowS e w' base v' (es ++ fs) /\ w.grownBy w' v.ownBlock:=by
 rcases Nat.eq_zero_or_pos m with h0 | h0
 ·subst h0
  obtain rfl : fs = []:=List.eq_nil_of_length_eq_zero hm;rw [List.append_nil]
  rcases A with _ | ad
  ·exact ⟨v,w,Zbv w base t ty e i 1 ht hi v _ _ hown.own c,hown,World.grownBy.refl w _⟩
  ·have hf:=run_firstCells_some (P:=P) w i.size 0 ad 0 c [] (by simp) (by simp)
   rcases hown with ⟨rfl,rfl⟩ | ⟨g,sp,rfl,h2,h3,h4⟩
   ·refine ⟨.slice none 0 0,w,?_,.inl ⟨rfl,rfl⟩,World.grownBy.refl w _⟩
    simp [Builtin.append_,run_underlying ht,sizeOf,typeInfo,hi,Builtin.lenOf,Builtin.firstCells,loadCells,loadCellsFrom]
   ·refine ⟨_,w,?_,.inr ⟨g,sp,rfl,h2,h3,h4⟩,World.grownBy.refl w _⟩
    simp [Builtin.append_,run_underlying ht,sizeOf,typeInfo,hi,Builtin.lenOf,Builtin.firstCells,loadCells,loadCellsFrom,storeCells]
 ·obtain ⟨ad,rfl,_,hc⟩:=hr.2 h0
  have hl : (Zao fs).length = m * i.size:=by rw [Za4,hm,hs]
  have hle : es.length * i.size = (Zao es).length:=by rw [Za4,hs]
  rcases hown with ⟨rfl,rfl⟩ | ⟨g,sp,rfl,h2,h3,h4⟩
  ·have hrun:=run_append_nil (P:=P) w t ty e i _ ht hi hz ad m c (Zao fs) hl hc h0 (by omega) (by rw [hby];omega)
   have hge:=grownCap_ge w m 0 e;have hcm:=grownCap_le_maxLen w m 0 e (by unfold maxLen;simp only [List.length_nil] at h63;omega);refine ⟨_,_,hrun,.inr ⟨w.heap.size,grownCap w m 0 e - m,?_,hbase,?_,?_⟩,⟨rfl,rfl,rfl,by simp,fun k hk _=>Below.heap_alloc w.drew _ k hk⟩⟩
   ·rw [List.nil_append,hm,Nat.add_sub_cancel' hge]
   ·rw [List.nil_append,hm,Nat.add_sub_cancel' hge];exact hcm
   ·have:=heap_alloc_new w.drew (.cells ((Zao fs).toArray ++ Builtin.zeroCells (Value.slice none 0 0).cells (grownCap w m 0 e - m)) e)
    unfold Blk;refine this.trans ?_
    congr 1
    have hx : (Zao fs).toArray ++ Builtin.zeroCells (Value.slice none 0 0).cells (grownCap w m 0 e - m) = Z2 ([] ++ fs ++ List.replicate (grownCap w m 0 e - m) Zam):=by
     apply Array.toList_inj.1
     rw [Array.toList_append,show (Value.slice none 0 0).cells = #[.slice none 0 0] from rfl,Zhi]
     simp [Z2,Zca]
    rw [hx]
  ·by_cases hroom : m <= sp
   ·have hrun:=run_append_room (P:=P) w t ty e i ht hi g es.length (es.length + sp) _ h4 ad m c (Zao fs) hl hc (Zq0 fs) (by omega) (by rw [hle,Za4,Za4];simp [Z2,Za4];omega)
    refine ⟨_,_,hrun,.inr ⟨g,sp - m,?_,h2,?_,?_⟩,⟨rfl,rfl,rfl,by simp [World.setRow],fun k _ hk=>setRow_other w g k _ (fun e'=>hk (by simp [Value.ownBlock,e']))⟩⟩
    ·rw [List.length_append,hm,show es.length + m + (sp - m) = es.length + sp by omega]
    ·rw [List.length_append,hm];omega
    ·refine (setRow_heap w g _ _ e _ h4).trans ?_
     congr 2
     unfold Z2
     congr 1
     rw [hle]
     have hrep : List.replicate sp Zam = List.replicate m Zam ++ List.replicate (sp - m) Zam:=by rw [List.replicate_append_replicate];congr 1;omega
     have hlm : (Zao fs).length = (Zao (List.replicate m Zam)).length:=by rw [Za4,Za4,hm,List.length_replicate]
     simp only [Zca];rw [List.take_left,hlm,<- List.length_append,hrep,Zca,<- List.append_assoc (Zao es),List.drop_left,List.append_assoc]
   ·have holds : ∀ j u,(Zao es)[j]? = some u -> w.cell? ((⟨g,0,none⟩ : Addr).add j) = some u:=fun j u hu=>by
      rw [Zh,Nat.zero_add,h4.cell];simp only [Z2,List.getElem?_toArray,Zca];rw [List.getElem?_append_left (by rw [List.getElem?_eq_some_iff] at hu;exact hu.1)];exact hu
    have hrun:=run_append_grow (P:=P) w t ty e i _ ht hi hz ⟨g,0,none⟩ es.length (es.length + sp) (Zao es) hle.symm holds ad m c (Zao fs) hl hc (by omega) (by omega) (growslice_fits (by omega) (by rw [hby];omega));have hge:=grownCap_ge w (es.length + m) (es.length + sp) e;have hcm:=grownCap_le_maxLen w (es.length + m) (es.length + sp) e (by unfold maxLen;omega);refine ⟨_,_,hrun,.inr ⟨w.heap.size,grownCap w (es.length + m) (es.length + sp) e - (es.length + m),?_,hbase,?_,?_⟩,⟨rfl,rfl,rfl,by simp,fun k hk _=>Below.heap_alloc w.drew _ k hk⟩⟩
    ·rw [List.length_append,hm,Nat.add_sub_cancel' hge]
    ·rw [List.length_append,hm,Nat.add_sub_cancel' hge];exact hcm
    ·have:=heap_alloc_new w.drew (.cells ((Zao es).toArray ++ (Zao fs).toArray ++ Builtin.zeroCells (Value.slice none 0 0).cells (grownCap w (es.length + m) (es.length + sp) e - (es.length + m))) e)
     unfold Blk;refine this.trans ?_
     congr 1
     have hx : (Zao es).toArray ++ (Zao fs).toArray ++ Builtin.zeroCells (Value.slice none 0 0).cells (grownCap w (es.length + m) (es.length + sp) e - (es.length + m)) = Z2 (es ++ fs ++ List.replicate (grownCap w (es.length + m) (es.length + sp) e - (es.length + m)) Zam):=by
      apply Array.toList_inj.1
      rw [Array.toList_append,Array.toList_append,show (Value.slice none 0 0).cells = #[.slice none 0 0] from rfl,Zhi]
      simp [Z2,Zca]
     rw [hx]
end
def sumQ : Nat -> (Nat -> Rat) -> Rat
 | 0,_=>0
 | n + 1,f=>sumQ n f + f n
def Zby (i a : Nat) : Nat:=if a < i then a else a + 1
def sgnQ (i : Nat) : Rat:=if i % 2 = 0 then 1 else -1
def Z6 : Nat -> (Nat -> Nat -> Rat) -> Rat
 | 0,_=>1
 | n + 1,M=>sumQ (n + 1) fun i=>sgnQ i * M i 0 * Z6 n (fun a b=>M (Zby i a) (b + 1))
theorem Zz {n : Nat} {f g : Nat -> Rat} (h : ∀ i,i < n -> f i = g i) : sumQ n f = sumQ n g:=by
 induction n with
 | zero=>rfl
 | succ n ih=>simp only [sumQ];rw [ih (fun i hi=>h i (by omega)),h n (by omega)]
theorem Zed {n : Nat} (f g : Nat -> Rat) (x y : Rat) : sumQ n (fun i=>x * f i + y * g i) = x * sumQ n f + y * sumQ n g:=by
 induction n with
 | zero=>simp only [sumQ];grind
 | succ n ih=>simp only [sumQ];rw [ih];grind
theorem Ze9 {n : Nat} {f : Nat -> Rat} (h : ∀ i,i < n -> f i = 0) : sumQ n f = 0:=by
 induction n with
 | zero=>rfl
 | succ n ih=>simp only [sumQ];rw [ih (fun i hi=>h i (by omega)),h n (by omega)];grind
theorem Zgs {n : Nat} {f : Nat -> Rat} (k : Nat) (hk : k < n) (h : ∀ i,i < n -> i ≠ k -> f i = 0) : sumQ n f = f k:=by
 induction n with
 | zero=>omega
 | succ n ih =>
  simp only [sumQ]
  by_cases hn : k = n
  ·subst hn
   rw [Ze9 (fun i hi=>h i (by omega) (by omega))];grind
  ·rw [ih (by omega) (fun i hi=>h i (by omega)),h n (by omega) (by omega)];grind
theorem Zua {n : Nat} {f : Nat -> Rat} (k : Nat) (hk : k + 1 < n) (h : ∀ i,i < n -> i ≠ k -> i ≠ k + 1 -> f i = 0) : sumQ n f = f k + f (k + 1):=by
 induction n with
 | zero=>omega
 | succ n ih =>
  simp only [sumQ]
  by_cases hn : k + 1 = n
  ·subst hn
   rw [Zgs k (by omega) (fun i hi h2=>h i (by omega) h2 (by omega))]
  ·rw [ih (by omega) (fun i hi=>h i (by omega)),h n (by omega) (by omega) (by omega)];grind
theorem Zoe {i a n : Nat} (ha : a < n) : Zby i a < n + 1:=by unfold Zby;split <;> omega
theorem Ztp (i a : Nat) : Zby i a ≠ i:=by unfold Zby;split <;> omega
theorem Zhv {i k : Nat} (h : k ≠ i) : Zby i (if k < i then k else k - 1) = k:=by
 unfold Zby
 by_cases h1 : k < i
 ·rw [if_pos h1,if_pos h1]
 ·rw [if_neg h1,if_neg (by omega)];omega
theorem Zs9 {i a b : Nat} (h : Zby i a = Zby i b) : a = b:=by unfold Zby at h;split at h <;> split at h <;> omega
theorem Zau {n : Nat} {M N : Nat -> Nat -> Rat} (h : ∀ a b,a < n -> b < n -> M a b = N a b) : Z6 n M = Z6 n N:=by
 induction n generalizing M N with
 | zero=>rfl
 | succ n ih =>
  simp only [Z6]
  refine Zz fun i hi=>?_
  rw [h i 0 hi (by omega),ih (fun a b ha hb=>h _ _ (Zoe ha) (by omega))]
def Zaf (M : Nat -> Nat -> Rat) (k : Nat) (r : Nat -> Rat) : Nat -> Nat -> Rat:=fun a b=>if a = k then r b else M a b
theorem Zeu {M : Nat -> Nat -> Rat} {k i : Nat} {r : Nat -> Rat} (h : k ≠ i) :
    (fun a b=>Zaf M k r (Zby i a) (b + 1)) = Zaf (fun a b=>M (Zby i a) (b + 1)) (if k < i then k else k - 1) (fun b=>r (b + 1)):=by
 funext a b
 unfold Zaf
 by_cases ha : a = (if k < i then k else k - 1)
 ·rw [if_pos ha,ha,Zhv h,if_pos rfl]
 ·rw [if_neg ha,if_neg]
  intro e;exact ha (Zs9 (i:=i) (by rw [e,Zhv h]))
theorem Zev {M : Nat -> Nat -> Rat} {k : Nat} {r : Nat -> Rat} : (fun a b=>Zaf M k r (Zby k a) (b + 1)) = (fun a b=>M (Zby k a) (b + 1)):=by
 funext a b
 unfold Zaf;rw [if_neg (Ztp k a)]
theorem Zf7 {n : Nat} (M : Nat -> Nat -> Rat) {k : Nat} (hk : k < n) (r s : Nat -> Rat) (x y : Rat) :
    Z6 n (Zaf M k (fun b=>x * r b + y * s b)) = x * Z6 n (Zaf M k r) + y * Z6 n (Zaf M k s):=by
 induction n generalizing M k r s with
 | zero=>omega
 | succ n ih =>
  simp only [Z6];rw [<- Zed]
  refine Zz fun i hi=>?_
  by_cases h : k = i
  ·subst h
   rw [Zev,Zev,Zev];simp only [Zaf,if_true]
   grind
  ·rw [Zeu h,Zeu h,Zeu h]
   rw [ih (fun a b=>M (Zby i a) (b + 1)) (k:=if k < i then k else k - 1) (by split <;> omega) (fun b=>r (b + 1)) (fun b=>s (b + 1))];simp only [Zaf,if_neg (show ¬ i = k from fun e=>h e.symm)]
   grind
theorem Zr3 (i : Nat) : sgnQ (i + 1) = - sgnQ i:=by
 unfold sgnQ
 rcases Nat.mod_two_eq_zero_or_one i with h | h
 ·rw [if_pos h,if_neg (by omega)]
 ·rw [if_neg (by omega : ¬ i % 2 = 0),if_pos (by omega)];grind
theorem Zol {n : Nat} {M : Nat -> Nat -> Rat} {k : Nat} (hk : k + 1 < n) (h : ∀ b,M (k + 1) b = M k b) : Z6 n M = 0:=by
 induction n generalizing M k with
 | zero=>omega
 | succ n ih =>
  simp only [Z6];rw [Zua k hk]
  ·have hm : (fun a b=>M (Zby k a) (b + 1)) = (fun a b=>M (Zby (k + 1) a) (b + 1)):=by
     funext a b
     by_cases ha : a = k
     ·subst ha
      simp only [Zby,if_neg (Nat.lt_irrefl a),if_pos (Nat.lt_succ_self a)];exact h _
     ·have : Zby k a = Zby (k + 1) a:=by unfold Zby;split <;> split <;> omega
      rw [this]
   rw [hm,h 0,Zr3];grind
  ·intro i hi h1 h2
   rw [ih (M:=fun a b=>M (Zby i a) (b + 1)) (k:=if k < i then k else k - 1)]
   ·grind
   ·split <;> omega
   ·intro b
    have e1 : Zby i (if k < i then k else k - 1) = k:=Zhv (Ne.symm h1)
    have e2 : Zby i ((if k < i then k else k - 1) + 1) = k + 1:=by unfold Zby;split <;> split <;> omega
    rw [e1,e2];exact h _
theorem Zdl (M : Nat -> Nat -> Rat) (k : Nat) : Zaf M k (M k) = M:=by
 funext a b;unfold Zaf;split
 ·rename_i h;rw [h]
 ·rfl
theorem Zbq (M : Nat -> Nat -> Rat) {k l : Nat} (h : k ≠ l) (r s : Nat -> Rat) : Zaf (Zaf M k r) l s = Zaf (Zaf M l s) k r:=by
 funext a b;unfold Zaf
 by_cases h1 : a = k
 ·subst h1;simp [h]
 ·simp [h1]
theorem Zkp {n : Nat} (M : Nat -> Nat -> Rat) {k : Nat} (hk : k < n) (r s : Nat -> Rat) :
    Z6 n (Zaf M k (fun b=>r b + s b)) = Z6 n (Zaf M k r) + Z6 n (Zaf M k s):=by
 have:=Zf7 M hk r s 1 1;rw [show (fun b=>r b + s b) = (fun b=>1 * r b + 1 * s b) by funext b;grind,this];grind
theorem Zic {n : Nat} {k l : Nat} (hk : k < n) (hl : l < n) (hne : k ≠ l) (hz : ∀ (M : Nat -> Nat -> Rat),(∀ b,M k b = M l b) -> Z6 n M = 0) (M : Nat -> Nat -> Rat) (r s : Nat -> Rat) :
    Z6 n (Zaf (Zaf M k r) l s) = - Z6 n (Zaf (Zaf M k s) l r):=by
 have h:=hz (Zaf (Zaf M k (fun b=>r b + s b)) l (fun b=>r b + s b)) (fun b=>by simp [Zaf,hne]);have h1:=hz (Zaf (Zaf M k r) l r) (fun b=>by simp [Zaf,hne]);have h2:=hz (Zaf (Zaf M k s) l s) (fun b=>by simp [Zaf,hne]);rw [Zkp _ hl,Zbq _ hne,Zbq _ hne,Zkp _ hk,Zkp _ hk,<- Zbq _ hne,<- Zbq _ hne,<- Zbq _ hne,<- Zbq _ hne,h1,h2] at h
 grind
theorem Zjr {n : Nat} : ∀ (d : Nat) (M : Nat -> Nat -> Rat) (k : Nat),k + d + 1 < n -> (∀ b,M k b = M (k + d + 1) b) -> Z6 n M = 0:=by
 intro d
 induction d with
 | zero=>intro M k hk h;exact Zol hk (fun b=>(h b).symm)
 | succ d ih =>
  intro M k hk h;have h1:=Zic (n:=n) (k:=k + d + 1) (l:=k + d + 2) (by omega) (by omega) (by omega) (fun M h=>Zol (k:=k + d + 1) (by omega) (fun b=>(h b).symm)) M (M (k + d + 1)) (M (k + d + 2));rw [Zdl,Zdl] at h1;rw [h1,ih _ k (by omega)]
  ·grind
  ·intro b
   have:=h b;rw [show k + (d + 1) + 1 = k + d + 2 by omega] at this;simp only [Zaf];rw [if_neg (by omega),if_neg (by omega),if_neg (by omega)]
   simpa using this
theorem Zip {n : Nat} {M : Nat -> Nat -> Rat} {k l : Nat} (hk : k < n) (hl : l < n) (hne : k ≠ l) (h : ∀ b,M k b = M l b) : Z6 n M = 0:=by
 rcases Nat.lt_or_gt_of_ne hne with h1 | h1
 ·exact Zjr (l - k - 1) M k (by omega) (fun b=>by rw [show k + (l - k - 1) + 1 = l by omega];exact h b)
 ·exact Zjr (k - l - 1) M l (by omega) (fun b=>by rw [show l + (k - l - 1) + 1 = k by omega];exact (h b).symm)
theorem Zsz {n : Nat} (M : Nat -> Nat -> Rat) {k l : Nat} (hk : k < n) (hl : l < n) (hne : k ≠ l) : Z6 n (Zaf (Zaf M k (M l)) l (M k)) = - Z6 n M:=by
 have h:=Zic hk hl hne (fun M h=>Zip hk hl hne h) M (M l) (M k);rw [h]
 congr 1
 rw [Zdl]
 congr 1
 funext a b
 unfold Zaf
 split
 ·rename_i h;rw [h]
 ·rfl
theorem Zo1 {n : Nat} (M : Nat -> Nat -> Rat) {k l : Nat} (hk : k < n) (hl : l < n) (hne : k ≠ l) (c : Rat) : Z6 n (Zaf M k (fun b=>M k b + c * M l b)) = Z6 n M:=by
 have h:=Zf7 M hk (M k) (M l) 1 c
 rw [show (fun b=>M k b + c * M l b) = (fun b=>1 * M k b + c * M l b) by funext b;grind,h,Zdl,
  Zip (M:=Zaf M k (M l)) hk hl hne (fun b=>by simp [Zaf,Ne.symm hne])]
 grind
theorem Zli {n : Nat} (M : Nat -> Nat -> Rat) {l : Nat} (hl : l < n) (c : Nat -> Rat) : Z6 n (fun a b=>if a = l then M a b else M a b + c a * M l b) = Z6 n M:=by
 have key : ∀ m,m <= n -> Z6 n (fun a b=>if a = l then M a b else if a < m then M a b + c a * M l b else M a b) = Z6 n M:=by
  intro m
  induction m with
  | zero=>intro _;congr 1;funext a b;split <;> rfl
  | succ m ih =>
   intro hm;have h0:=ih (by omega)
   by_cases hml : m = l
   ·rw [<- h0];congr 1;funext a b
    by_cases ha : a = l
    ·simp [ha]
    ·rw [if_neg ha,if_neg ha]
     by_cases h1 : a < m
     ·rw [if_pos h1,if_pos (by omega)]
     ·rw [if_neg h1,if_neg (by omega)]
   ·have h1:=Zo1 (n:=n) (fun a b=>if a = l then M a b else if a < m then M a b + c a * M l b else M a b) (k:=m) (l:=l) (by omega) hl hml (c m)
    rw [h0] at h1;rw [<- h1];congr 1;funext a b;unfold Zaf
    by_cases ha : a = m
    ·subst ha;simp [hml]
    ·rw [if_neg ha]
     by_cases hal : a = l
     ·simp [hal]
     ·rw [if_neg hal]
      by_cases h1 : a < m
      ·rw [if_pos (by omega)];simp [hal,h1]
      ·rw [if_neg (by omega)];simp [hal,h1]
 rw [<- key n (Nat.le_refl _)]
 exact Zau fun a b ha hb=>by rw [if_pos ha]
def Zan : Nat -> (Nat -> Rat) -> Rat
 | 0,_=>1
 | n + 1,f=>Zan n f * f n
theorem Zb2 {n : Nat} {f g : Nat -> Rat} (h : ∀ i,i < n -> f i = g i) : Zan n f = Zan n g:=by
 induction n with
 | zero=>rfl
 | succ n ih=>simp only [Zan];rw [ih (fun i hi=>h i (by omega)),h n (by omega)]
theorem Zn8 {n : Nat} (f : Nat -> Rat) : Zan (n + 1) f = f 0 * Zan n (fun i=>f (i + 1)):=by
 induction n generalizing f with
 | zero=>simp only [Zan];grind
 | succ n ih=>rw [Zan,ih,Zan];grind
theorem Zez {n : Nat} {M : Nat -> Nat -> Rat} (h : ∀ a b,a < n -> b < a -> M a b = 0) : Z6 n M = Zan n (fun i=>M i i):=by
 induction n generalizing M with
 | zero=>rfl
 | succ n ih =>
  simp only [Z6];rw [Zgs 0 (by omega)]
  ·rw [Zn8,ih]
   ·have : sgnQ 0 = 1:=rfl
    rw [this,Zb2 (g:=fun i=>M (i + 1) (i + 1)) (fun i hi=>by simp only [Zby];rw [if_neg (by omega)])];grind
   ·intro a b ha hb
    simp only [Zby];rw [if_neg (by omega)];exact h _ _ (by omega) (by omega)
  ·intro i hi h0
   rw [h i 0 hi (by omega)];grind
def Z7 (Z : List (List Int)) (i j : Nat) : Int:=(Z[i]?.getD [])[j]?.getD 0
def Zm (R : List (List Rat)) (i j : Nat) : Rat:=(R[i]?.getD [])[j]?.getD 0
def Zac {α : Type} (l : List α) (i j : Nat) : List α:=match l[i]?,l[j]? with
 | some x,some y=>(l.set i y).set j x
 | _,_=>l
def Zoc (p row : List Int) (col : Nat) (piv last : Int) : List Int:=(List.range row.length).map fun k=>Int.fdiv (row[k]?.getD 0 * piv - row[col]?.getD 0 * p[k]?.getD 0) last
def Zc5 (Z : List (List Int)) (r col : Nat) (last : Int) : List (List Int):=
 (List.range Z.length).map fun i=>if i <= r then Z[i]?.getD [] else Zoc (Z[r]?.getD []) (Z[i]?.getD []) col (Z7 Z r col) last
def rowR (p row : List Rat) (col : Nat) : List Rat:=(List.range row.length).map fun k=>if k < col then row[k]?.getD 0 else row[k]?.getD 0 - row[col]?.getD 0 / p[col]?.getD 0 * p[k]?.getD 0
def Zck (R : List (List Rat)) (r col : Nat) : List (List Rat):=(List.range R.length).map fun i=>if i <= r then R[i]?.getD [] else rowR (R[r]?.getD []) (R[i]?.getD []) col
def Za7 (z : Nat -> Bool) (n : Nat) : Nat -> Nat -> Nat
 | 0,k=>k
 | f + 1,k=>if k < n /\ z k = true then Za7 z n f (k + 1) else k
def Z0 : Nat -> Nat -> Nat -> List (List Int) -> Bool -> Int -> List (List Int) × Nat × Bool × Int
 | 0,_,r,Z,neg,last=>(Z,r,neg,last)
 | f + 1,col,r,Z,neg,last =>
  if r = Z.length then (Z,r,neg,last)
  else if Za7 (fun i=>Z7 Z i col == 0) Z.length Z.length r = Z.length then Z0 f (col + 1) r Z neg last
  else Z0 f (col + 1) (r + 1) (Zc5 (Zac Z (Za7 (fun i=>Z7 Z i col == 0) Z.length Z.length r) r) r col last) (neg != decide (Za7 (fun i=>Z7 Z i col == 0) Z.length Z.length r ≠ r)) (Z7 Z (Za7 (fun i=>Z7 Z i col == 0) Z.length Z.length r) col)
def Zab : Nat -> Nat -> Nat -> List (List Rat) -> Bool -> List (List Rat) × Nat × Bool
 | 0,_,r,R,neg=>(R,r,neg)
 | f + 1,col,r,R,neg =>
  if r = R.length then (R,r,neg)
  else if Za7 (fun i=>Zm R i col == 0) R.length R.length r = R.length then Zab f (col + 1) r R neg
  else Zab f (col + 1) (r + 1) (Zck (Zac R (Za7 (fun i=>Zm R i col == 0) R.length R.length r) r) r col) (neg != decide (Za7 (fun i=>Zm R i col == 0) R.length R.length r ≠ r))
theorem Zef {z : Nat -> Bool} {n : Nat} : ∀ {f k : Nat},n <= k + f -> k <= n -> k <= Za7 z n f k /\ Za7 z n f k <= n /\ (∀ i,k <= i -> i < Za7 z n f k -> z i = true) /\ (Za7 z n f k < n -> z (Za7 z n f k) = false)
 | 0,k,h,hk=>by
  obtain rfl : k = n:=by omega
  exact ⟨Nat.le_refl _,Nat.le_refl _,fun i h1 h2=>by simp only [Za7] at h2;omega,fun h=>by simp only [Za7] at h;omega⟩
 | f + 1,k,h,hk=>by
  unfold Za7
  by_cases hc : k < n /\ z k = true
  ·rw [if_pos hc]
   obtain ⟨h1,h2,h3,h4⟩:=Zef (z:=z) (n:=n) (f:=f) (k:=k + 1) (by omega) (by omega);refine ⟨by omega,h2,fun i hi1 hi2=>?_,h4⟩
   by_cases hik : i = k
   ·rw [hik];exact hc.2
   ·exact h3 i (by omega) hi2
  ·rw [if_neg hc]
   refine ⟨Nat.le_refl _,hk,fun i h1 h2=>by omega,fun hkn=>?_⟩
   cases hz : z k with
   | false=>rfl
   | true=>exact absurd ⟨hkn,hz⟩ hc
theorem Zj6 {z : Nat -> Bool} {n f k q : Nat} (h : n <= k + f) (hk : k <= q) (hq : q <= n) (h1 : ∀ i,k <= i -> i < q -> z i = true) (h2 : q < n -> z q = false) : Za7 z n f k = q:=by
 obtain ⟨a,b,c,d⟩:=Zef (z:=z) h (Nat.le_trans hk hq)
 rcases Nat.lt_trichotomy (Za7 z n f k) q with h3 | h3 | h3
 ·have:=d (by omega);rw [h1 _ a h3] at this;cases this
 ·exact h3
 ·have:=c q hk h3;rw [h2 (by omega)] at this;cases this
theorem Zom {y z : Nat -> Bool} {n f k : Nat} (h : n <= k + f) (hk : k <= n) (he : ∀ i,k <= i -> i < n -> y i = z i) : Za7 y n f k = Za7 z n f k:=by
 obtain ⟨a,b,c,d⟩:=Zef (z:=z) h hk;exact Zj6 h a b (fun i h1 h2=>by rw [he i h1 (by omega)];exact c i h1 h2) (fun h1=>by rw [he _ a h1];exact d h1)
def BndQ (B : Nat) (q : Rat) : Prop:=∃ z : Int,q = (z : Rat) /\ z.natAbs <= B
theorem BndQ.add {B C : Nat} {p q : Rat} (h : BndQ B p) (k : BndQ C q) : BndQ (B + C) (p + q):=by
 obtain ⟨a,rfl,h1⟩:=h;obtain ⟨b,rfl,h2⟩:=k;exact ⟨a + b,by rw [Rat.intCast_add],by omega⟩
theorem BndQ.mul {B C : Nat} {p q : Rat} (h : BndQ B p) (k : BndQ C q) : BndQ (B * C) (p * q):=by
 obtain ⟨a,rfl,h1⟩:=h;obtain ⟨b,rfl,h2⟩:=k;exact ⟨a * b,by rw [Rat.intCast_mul],by rw [Int.natAbs_mul];exact Nat.mul_le_mul h1 h2⟩
theorem BndQ.mono {B C : Nat} {q : Rat} (h : BndQ B q) (hBC : B <= C) : BndQ C q:=by obtain ⟨a,h1,h2⟩:=h;exact ⟨a,h1,by omega⟩
def Zay (B : Nat) : Nat -> Nat
 | 0=>1
 | n + 1=>(n + 1) * (B * Zay B n)
theorem Zpm {B n : Nat} {f : Nat -> Rat} (h : ∀ i,i < n -> BndQ B (f i)) : BndQ (n * B) (sumQ n f):=by
 induction n with
 | zero=>exact ⟨0,rfl,by simp⟩
 | succ n ih=>rw [Nat.succ_mul];exact (ih fun i hi=>h i (by omega)).add (h n (by omega))
theorem Zur (i : Nat) : BndQ 1 (sgnQ i):=by unfold sgnQ;split;exact ⟨1,rfl,by decide⟩;exact ⟨-1,rfl,by decide⟩
theorem Zge {B n : Nat} {M : Nat -> Nat -> Rat} (h : ∀ a b,a < n -> b < n -> BndQ B (M a b)) : BndQ (Zay B n) (Z6 n M):=by
 induction n generalizing M with
 | zero=>exact ⟨1,rfl,by simp [Zay]⟩
 | succ n ih =>
  simp only [Z6,Zay]
  refine Zpm fun i hi=>?_
  have:=((Zur i).mul (h i 0 hi (by omega))).mul (ih (M:=fun a b=>M (Zby i a) (b + 1)) fun a b ha hb=>h _ _ (Zoe ha) (by omega))
  rwa [Nat.one_mul] at this
theorem Zcp {B m n : Nat} (hB : 1 <= B) (h : m <= n) : Zay B m <= Zay B n:=by
 induction n with
 | zero=>obtain rfl : m = 0:=by omega
         exact Nat.le_refl _
 | succ n ih =>
  by_cases hm : m = n + 1
  ·rw [hm];exact Nat.le_refl _
  ·refine Nat.le_trans (ih (by omega)) ?_
   simp only [Zay]
   calc Zay B n = 1 * (1 * Zay B n):=by simp
    _ <= (n + 1) * (B * Zay B n):=Nat.mul_le_mul (by omega) (Nat.mul_le_mul hB (Nat.le_refl _))
def swI (k r i : Nat) : Nat:=if i = k then r else if i = r then k else i
theorem Znx (k r i : Nat) : swI k r (swI k r i) = i:=by
 unfold swI
 by_cases h1 : i = k
 ·subst h1
  by_cases h2 : i = r
  ·simp [h2]
  ·simp [Ne.symm h2]
 ·by_cases h2 : i = r
  ·subst h2;simp [h1]
  ·simp [h1,h2]
theorem Zc6 {α : Type} {l : List α} {k r : Nat} (hk : k < l.length) (hr : r < l.length) (i : Nat) : (Zac l k r)[i]? = l[swI k r i]?:=by
 unfold Zac;rw [List.getElem?_eq_getElem hk,List.getElem?_eq_getElem hr];simp only;unfold swI;rw [List.getElem?_set,List.getElem?_set,List.length_set]
 by_cases h1 : r = i
 ·subst h1
  rw [if_pos rfl,if_pos hr]
  by_cases h2 : r = k
  ·subst h2;simp [hr]
  ·rw [if_neg h2,if_pos rfl,List.getElem?_eq_getElem hk]
 ·rw [if_neg h1]
  by_cases h2 : k = i
  ·subst h2;simp [hk,hr]
  ·rw [if_neg h2,if_neg (Ne.symm h2),if_neg (Ne.symm h1)]
theorem Zdn {α : Type} (l : List α) (k r : Nat) : (Zac l k r).length = l.length:=by unfold Zac;split <;> simp
theorem Zgq {k r i n : Nat} (hk : k < n) (hr : r < n) (hi : i < n) : swI k r i < n:=by unfold swI;split <;> (try split) <;> omega
structure EIR (B S n m col r : Nat) (R : List (List Rat)) (pc : Nat -> Nat) (G : Nat -> Nat -> Rat) (s : Nat -> Rat) : Prop where
 len : R.length = n
 row : ∀ i,i < n -> (R[i]?.getD []).length = m
 pcl : ∀ l,l < r -> pc l < col
 inc : ∀ l l',l < l' -> l' < r -> pc l < pc l'
 low : ∀ i j,r <= i -> i < n -> j < col -> Zm R i j = 0
 bef : ∀ l j,l < r -> j < pc l -> Zm R l j = 0
 piv : ∀ l,l < r -> Zm R l (pc l) ≠ 0
 rn : r <= n
 cm : col <= m
 sB : ∀ i,i < n -> BndQ S (s i) /\ s i ≠ 0
 gB : ∀ i j,i < n -> BndQ B (G i j)
 det : ∀ (N : Nat) (f σ : Nat -> Nat),(∀ a,a < N -> σ a < n) -> (∀ a,a < r -> σ a = a) -> (∀ a,r <= a -> r <= σ a) -> Z6 N (fun a b=>s (σ a) * Zm R (σ a) (f b)) = Z6 N (fun a b=>G (σ a) (f b))
def Zdy (R : List (List Rat)) (pc : Nat -> Nat) (s : Nat -> Rat) (l : Nat) : Rat:=Zan l (fun i=>s i * Zm R i (pc i))
section
variable {B S n m col r : Nat} {R : List (List Rat)} {pc : Nat -> Nat} {G : Nat -> Nat -> Rat} {s : Nat -> Rat}
theorem EIR.minor_eq (h : EIR B S n m col r R pc G s) {i : Nat} (hi : i < n) (j : Nat) :
    Zdy R pc s (min i r) * (s i * Zm R i j) = Z6 (min i r + 1) (fun a b=>G (if a < min i r then a else i) (if b < min i r then pc b else j)):=by
 obtain ⟨q,hq⟩ : ∃ q,q = min i r:=⟨_,rfl⟩;rw [<- hq];have hrn:=h.rn
 have hd:=h.det (q + 1) (fun b=>if b < q then pc b else j) (fun a=>if a < r then a else if i < r then a else i)
  (fun a ha=>by
   by_cases h1 : a < r
   ·rw [if_pos h1];omega
   ·rw [if_neg h1];by_cases h2 : i < r
    ·omega
    ·rw [if_neg h2];exact hi) (fun a ha=>by rw [if_pos ha]) (fun a ha=>by
   rw [if_neg (by omega)]
   by_cases h2 : i < r
   ·rw [if_pos h2];exact ha
   ·rw [if_neg h2];omega)
 have hσ : ∀ a,a < q + 1 -> (if a < r then a else if i < r then a else i) = if a < q then a else i:=by
  intro a ha
  by_cases h1 : a < q
  ·rw [if_pos h1,if_pos (by omega)]
  ·rw [if_neg h1]
   by_cases h2 : i < r
   ·rw [if_pos (by omega)];omega
   ·rw [if_neg (by omega),if_neg h2]
 rw [<- Zau (M:=fun a b=>G (if a < r then a else if i < r then a else i) (if b < q then pc b else j)) (N:=fun a b=>G (if a < q then a else i) (if b < q then pc b else j)) (fun a b ha hb=>by rw [hσ a ha])];rw [<- hd,Zez]
 ·rw [Zan]
  unfold Zdy
  congr 1
  ·refine Zb2 fun a ha=>?_
   rw [if_pos ha,if_pos (by omega)]
  ·rw [if_neg (Nat.lt_irrefl q)]
   have:=hσ q (Nat.lt_succ_self q);rw [if_neg (Nat.lt_irrefl q)] at this;rw [this]
 ·intro a b ha hb
  rw [if_pos (by omega : b < q),hσ a ha]
  by_cases h1 : a < q
  ·rw [if_pos h1,h.bef a (pc b) (by omega) (h.inc b a hb (by omega))];grind
  ·rw [if_neg h1]
   by_cases h2 : i < r
   ·rw [h.bef i (pc b) h2 (h.inc b i (by omega) h2)];grind
   ·rw [h.low i (pc b) (by omega) hi (h.pcl b (by omega))];grind
theorem EIR.minor (h : EIR B S n m col r R pc G s) {i : Nat} (hi : i < n) (j : Nat) : BndQ (Zay B (min i r + 1)) (Zdy R pc s (min i r) * (s i * Zm R i j)):=by
 rw [h.minor_eq hi j]
 refine Zge fun a b ha hb=>h.gB _ _ ?_
 split <;> omega
theorem EIR.piv_ne (h : EIR B S n m col r R pc G s) {l : Nat} (hl : l <= r) : Zdy R pc s l ≠ 0:=by
 induction l with
 | zero=>unfold Zdy Zan;grind
 | succ l ih =>
  have h1:=ih (by omega);have h2:=h.piv l (by omega);have h3:=(h.sB l (by have:=h.rn;omega)).2;unfold Zdy at h1 ⊢;rw [Zan];intro h0
  rcases Rat.mul_eq_zero.1 h0 with h0 | h0
  ·exact h1 h0
  ·rcases Rat.mul_eq_zero.1 h0 with h0 | h0
   ·exact h3 h0
   ·exact h2 h0
theorem EIR.pivL_bnd (h : EIR B S n m col r R pc G s) {l : Nat} (hl : l <= r) : BndQ (Zay B l) (Zdy R pc s l):=by
 cases l with
 | zero=>exact ⟨1,rfl,by simp [Zay]⟩
 | succ l =>
  have h1:=h.minor (i:=l) (by have:=h.rn;omega) (pc l);rw [show min l r = l by omega] at h1;unfold Zdy at h1 ⊢;rw [Zan];exact h1
theorem numQ_le (a b : Int) (h : b ≠ 0) : (Rat.divInt a b).num.natAbs <= a.natAbs:=by
 rw [Rat.num_divInt,Int.natAbs_ediv_of_dvd]
 ·refine Nat.le_trans (Nat.div_le_self _ _) ?_
  rw [Int.natAbs_mul]
  rcases Int.lt_or_gt_of_ne h with g | g
  ·rw [Int.sign_eq_neg_one_of_neg g];simp
  ·rw [Int.sign_eq_one_of_pos g];simp
 ·exact Int.dvd_trans (Int.gcd_dvd_right _ _) (Int.dvd_mul_left _ _)
theorem Zep {B C : Nat} {p q : Rat} (h : BndQ B (q * p)) (k : BndQ C q) (hq : q ≠ 0) : p.num.natAbs <= B /\ p.den <= C:=by
 obtain ⟨a,h1,h2⟩:=h;obtain ⟨b,h3,h4⟩:=k
 have hb : b ≠ 0:=by rintro rfl;rw [h3] at hq;exact hq rfl
 have hp : p = Rat.divInt a b:=by
  rw [Rat.divInt_eq_div,<- h1,h3]
  have : (b : Rat) ≠ 0:=by rw [<- h3];exact hq
  grind
 rw [hp]
 constructor
 ·exact Nat.le_trans (numQ_le a b hb) h2
 ·rw [Rat.den_divInt,if_neg hb]
  exact Nat.le_trans (Nat.div_le_self _ _) h4
theorem EIR.bound (h : EIR B S n m col r R pc G s) (hB : 1 <= B) {i : Nat} (hi : i < n) (j : Nat) : (Zm R i j).num.natAbs <= Zay B n /\ (Zm R i j).den <= Zay B n * S:=by
 have h1:=h.minor hi j;have h2:=h.pivL_bnd (l:=min i r) (by omega);have h3:=h.sB i hi;have h4:=h.piv_ne (l:=min i r) (by omega);rw [<- Rat.mul_assoc] at h1
 have h5:=Zep h1 (h2.mul h3.1) (fun h0=>by
  rcases Rat.mul_eq_zero.1 h0 with h0 | h0
  ·exact h4 h0
  ·exact h3.2 h0)
 have h6:=Zcp hB (show min i r + 1 <= n by omega);have h7:=Zcp hB (show min i r <= n by omega);exact ⟨by omega,Nat.le_trans h5.2 (Nat.mul_le_mul h7 (Nat.le_refl _))⟩
theorem Zg4 {k r : Nat} (hk : k < R.length) (hr : r < R.length) (i j : Nat) : Zm (Zac R k r) i j = Zm R (swI k r i) j:=by
 unfold Zm;rw [Zc6 hk hr]
theorem Zkg {k r i : Nat} (hk : r <= k) (hi : i < r) : swI k r i = i:=by unfold swI;rw [if_neg (by omega),if_neg (by omega)]
theorem Zn5 {k r i : Nat} (hk : r <= k) (hi : r <= i) : r <= swI k r i:=by unfold swI;split <;> (try split) <;> omega
theorem EIR.skip (h : EIR B S n m col r R pc G s) (hc : col < m) (hz : ∀ i,r <= i -> i < n -> Zm R i col = 0) : EIR B S n m (col + 1) r R pc G s:=
 { h with
  pcl:=fun l hl=>by have:=h.pcl l hl;omega
  cm:=hc
  low:=fun i j hi hn hj=>by
   by_cases hjc : j = col
   ·rw [hjc];exact hz i hi hn
   ·exact h.low i j hi hn (by omega) }
theorem EIR.swap (h : EIR B S n m col r R pc G s) {k : Nat} (hk : k < n) (hrk : r <= k) : EIR B S n m col r (Zac R k r) pc (fun i j=>G (swI k r i) j) (fun i=>s (swI k r i)):=by
 have hr : r < n:=by omega
 have hl:=h.len;have he : ∀ i j,Zm (Zac R k r) i j = Zm R (swI k r i) j:=Zg4 (by omega) (by omega)
 have hlt : ∀ {i},i < n -> swI k r i < n:=fun hi=>Zgq hk hr hi
 refine ⟨by rw [Zdn];exact hl,fun i hi=>by rw [Zc6 (by omega) (by omega)];exact h.row _ (hlt hi),h.pcl,h.inc,fun i j hi hn hj=>?_,fun l j hl' hj=>?_,fun l hl'=>?_,h.rn,h.cm,fun i hi=>h.sB _ (hlt hi),fun i j hi=>h.gB _ _ (hlt hi),fun N f σ h1 h2 h3=>?_⟩
 ·rw [he];exact h.low _ _ (Zn5 hrk hi) (hlt hn) hj
 ·rw [he,Zkg hrk hl'];exact h.bef l j hl' hj
 ·rw [he,Zkg hrk hl'];exact h.piv l hl'
 ·have:=h.det N f (fun a=>swI k r (σ a)) (fun a ha=>hlt (h1 a ha)) (fun a ha=>by rw [h2 a ha,Zkg hrk ha]) (fun a ha=>Zn5 hrk (h3 a ha))
  rw [<- this]
  exact Zau fun a b _ _=>by rw [he]
theorem Zhw (hrow : ∀ i,i < R.length -> (R[i]?.getD []).length = m) (hlow : ∀ j,j < col -> Zm R r j = 0) (i j : Nat) (hi : i < R.length) (hr : r < R.length) :
    Zm (Zck R r col) i j = if i <= r then Zm R i j else Zm R i j - Zm R i col / Zm R r col * Zm R r j:=by
 unfold Zck;show ((List.map _ (List.range R.length))[i]?.getD [])[j]?.getD 0 = _;rw [List.getElem?_map,List.getElem?_range hi];simp only [Option.map_some,Option.getD_some]
 by_cases h1 : i <= r
 ·rw [if_pos h1,if_pos h1];rfl
 ·rw [if_neg h1,if_neg h1]
  unfold rowR;rw [List.getElem?_map]
  by_cases hj : j < (R[i]?.getD []).length
  ·rw [List.getElem?_range hj]
   simp only [Option.map_some,Option.getD_some]
   by_cases hjc : j < col
   ·rw [if_pos hjc,hlow j hjc]
    show Zm R i j = _
    grind
   ·rw [if_neg hjc];rfl
  ·rw [List.getElem?_eq_none (l:=List.range _) (by simpa using hj)]
   simp only [Option.map_none,Option.getD_none]
   have e1 : Zm R i j = 0:=by unfold Zm;rw [List.getElem?_eq_none (by omega)];rfl
   have e2 : Zm R r j = 0:=by unfold Zm;rw [List.getElem?_eq_none (by rw [hrow i hi] at hj;rw [hrow r hr];omega)];rfl
   rw [e1,e2];grind
theorem Zke : (Zck R r col).length = R.length:=by unfold Zck;simp
theorem Zk2 (i : Nat) (hi : i < R.length) : ((Zck R r col)[i]?.getD []).length = (R[i]?.getD []).length:=by
 unfold Zck;rw [List.getElem?_map,List.getElem?_range hi];simp only [Option.map_some,Option.getD_some]
 split
 ·rfl
 ·unfold rowR;simp
theorem EIR.clear (h : EIR B S n m col r R pc G s) (hc : col < m) (hr : r < n) (hp : Zm R r col ≠ 0) : EIR B S n m (col + 1) (r + 1) (Zck R r col) (fun l=>if l = r then col else pc l) G s:=by
 have hl:=h.len
 have he : ∀ i j,i < n -> Zm (Zck R r col) i j = if i <= r then Zm R i j else Zm R i j - Zm R i col / Zm R r col * Zm R r j:=
  fun i j hi=>Zhw (m:=m) (fun i hi=>h.row i (by omega)) (fun j hj=>h.low r j (Nat.le_refl _) hr hj) i j (by omega) (by omega)
 refine ⟨by rw [Zke];exact hl,fun i hi=>by rw [Zk2 i (by omega)];exact h.row i hi,fun l hl'=>?_,fun l l' h1 h2=>?_,fun i j hi hn hj=>?_,fun l j hl' hj=>?_,fun l hl'=>?_,hr,hc,h.sB,h.gB,fun N f σ h1 h2 h3=>?_⟩
 ·split
  ·omega
  ·have:=h.pcl l (by omega);omega
 ·rw [if_neg (by omega : ¬ l = r)]
  split
  ·exact h.pcl l (by omega)
  ·exact h.inc l l' h1 (by omega)
 ·rw [he i j hn,if_neg (by omega)]
  by_cases hjc : j = col
  ·rw [hjc];grind
  ·rw [h.low i j (by omega) hn (by omega),h.low r j (Nat.le_refl _) hr (by omega)];grind
 ·rw [he l j (by omega),if_pos (by omega)]
  by_cases hlr : l = r
  ·rw [hlr];simp only [hlr,if_true] at hj
   exact h.low r j (Nat.le_refl _) hr hj
  ·simp only [if_neg hlr] at hj
   exact h.bef l j (by omega) hj
 ·rw [he l _ (by omega),if_pos (by omega)]
  by_cases hlr : l = r
  ·simp only [hlr,if_true];exact hp
  ·simp only [if_neg hlr];exact h.piv l (by omega)
 ·rw [<- h.det N f σ h1 (fun a ha=>h2 a (by omega)) (fun a ha=>by
    by_cases har : a = r
    ·rw [har,h2 r (by omega)];exact Nat.le_refl _
    ·have:=h3 a (by omega);omega)]
  by_cases hN : N <= r
  ·refine Zau fun a b ha hb=>?_
   rw [he _ _ (h1 a ha),if_pos];rw [h2 a (by omega)];omega
  ·have hσr : σ r = r:=h2 r (by omega)
   rw [<- Zli (fun a b=>s (σ a) * Zm R (σ a) (f b)) (l:=r) (n:=N) (by omega) (fun a=>if a <= r then 0 else - (s (σ a) * Zm R (σ a) col / (s r * Zm R r col)))]
   refine Zau fun a b ha hb=>?_
   rw [he _ _ (h1 a ha)]
   by_cases har : a <= r
   ·rw [h2 a (by omega),if_pos har]
    simp only [if_pos har]
    split
    ·rfl
    ·grind
   ·have:=h3 a (by omega)
    rw [if_neg (by omega),if_neg (by omega),if_neg har,hσr];have hs:=(h.sB r hr).2
    grind
structure EIZ (n m r : Nat) (R : List (List Rat)) (pc : Nat -> Nat) (s : Nat -> Rat) (Z : List (List Int)) (last : Int) : Prop where
 len : Z.length = n
 row : ∀ i,i < n -> (Z[i]?.getD []).length = m
 last : (last : Rat) = Zdy R pc s r
 ent : ∀ i j,i < n -> (Z7 Z i j : Rat) = Zdy R pc s (min i r) * (s i * Zm R i j)
theorem Zll {R' : List (List Rat)} {pc' : Nat -> Nat} {s' : Nat -> Rat} {l : Nat} (h : ∀ i,i < l -> s i * Zm R i (pc i) = s' i * Zm R' i (pc' i)) : Zdy R pc s l = Zdy R' pc' s' l:=Zb2 h
theorem Zfk {a b : Int} (h : (a : Rat) = (b : Rat)) : a = b:=by exact_mod_cast h
theorem EIZ.last_ne {Z : List (List Int)} {last : Int} (h : EIR B S n m col r R pc G s) (k : EIZ n m r R pc s Z last) : last ≠ 0:=by
 rintro rfl;exact h.piv_ne (Nat.le_refl r) (k.last.symm.trans rfl)
theorem EIZ.last_bnd {Z : List (List Int)} {last : Int} (h : EIR B S n m col r R pc G s) (k : EIZ n m r R pc s Z last) (hB : 1 <= B) : last.natAbs <= Zay B n:=by
 obtain ⟨z,h1,h2⟩:=h.pivL_bnd (Nat.le_refl r);rw [<- k.last] at h1;rw [Zfk h1];exact Nat.le_trans h2 (Zcp hB h.rn)
theorem EIZ.bnd {Z : List (List Int)} {last : Int} (h : EIR B S n m col r R pc G s) (k : EIZ n m r R pc s Z last) (hB : 1 <= B) {i : Nat} (hi : i < n) (j : Nat) : (Z7 Z i j).natAbs <= Zay B n:=by
 obtain ⟨z,h1,h2⟩:=h.minor hi j;rw [<- k.ent i j hi] at h1;rw [Zfk h1];exact Nat.le_trans h2 (Zcp hB (by omega))
theorem EIZ.zero {Z : List (List Int)} {last : Int} (h : EIR B S n m col r R pc G s) (k : EIZ n m r R pc s Z last) {i : Nat} (hi : i < n) (j : Nat) : (Z7 Z i j == 0) = (Zm R i j == 0):=by
 have h1:=k.ent i j hi;have h2:=h.piv_ne (l:=min i r) (by omega);have h3:=(h.sB i hi).2
 by_cases h0 : Zm R i j = 0
 ·rw [h0] at h1 ⊢
  have : Z7 Z i j = 0:=Zfk (by rw [h1];grind);rw [this];rfl
 ·have : Z7 Z i j ≠ 0:=by
    intro hz;rw [hz] at h1
    rcases Rat.mul_eq_zero.1 h1.symm with h4 | h4
    ·exact h2 h4
    ·rcases Rat.mul_eq_zero.1 h4 with h4 | h4
     ·exact h3 h4
     ·exact h0 h4
  rw [beq_eq_false_iff_ne.2 this,beq_eq_false_iff_ne.2 h0]
theorem Zgw {Z : List (List Int)} {k r : Nat} (hk : k < Z.length) (hr : r < Z.length) (i j : Nat) : Z7 (Zac Z k r) i j = Z7 Z (swI k r i) j:=by
 unfold Z7;rw [Zc6 hk hr]
theorem EIZ.swap {Z : List (List Int)} {last : Int} (h : EIR B S n m col r R pc G s) (q : EIZ n m r R pc s Z last) {k : Nat} (hk : k < n) (hrk : r <= k) : EIZ n m r (Zac R k r) pc (fun i=>s (swI k r i)) (Zac Z k r) last:=by
 have hr : r < n:=by omega
 have hl:=h.len;have hzl:=q.len;have he : ∀ i j,Zm (Zac R k r) i j = Zm R (swI k r i) j:=Zg4 (by omega) (by omega)
 have hp : ∀ l,l <= r -> Zdy (Zac R k r) pc (fun i=>s (swI k r i)) l = Zdy R pc s l:=fun l hl=>Zll fun i hi=>by rw [he,Zkg hrk (by omega)]
 refine ⟨by rw [Zdn];exact hzl,fun i hi=>by rw [Zc6 (by omega) (by omega)];exact q.row _ (Zgq hk hr hi),?_,fun i j hi=>?_⟩
 ·rw [hp r (Nat.le_refl r)];exact q.last
 ·rw [hp _ (by omega),he,Zgw (by omega) (by omega),q.ent _ j (Zgq hk hr hi)]
  have : min (swI k r i) r = min i r:=by
   by_cases hir : i < r
   ·rw [Zkg hrk hir]
   ·have:=Zn5 (i:=i) hrk (by omega);omega
  rw [this]
theorem Zql {Z : List (List Int)} {last : Int} (hrow : ∀ i,i < Z.length -> (Z[i]?.getD []).length = m) (i j : Nat) (hi : i < Z.length) :
    Z7 (Zc5 Z r col last) i j = if i <= r then Z7 Z i j else if j < m then Int.fdiv (Z7 Z i j * Z7 Z r col - Z7 Z i col * Z7 Z r j) last else 0:=by
 unfold Zc5;show ((List.map _ (List.range Z.length))[i]?.getD [])[j]?.getD 0 = _;rw [List.getElem?_map,List.getElem?_range hi];simp only [Option.map_some,Option.getD_some]
 by_cases h1 : i <= r
 ·rw [if_pos h1,if_pos h1];rfl
 ·rw [if_neg h1,if_neg h1]
  unfold Zoc;rw [List.getElem?_map]
  by_cases hj : j < (Z[i]?.getD []).length
  ·rw [List.getElem?_range hj,if_pos (by rw [hrow i hi] at hj;exact hj)];rfl
  ·rw [List.getElem?_eq_none (l:=List.range _) (by simpa using hj),if_neg (by rw [hrow i hi] at hj;exact hj)];rfl
theorem Zhn {Z : List (List Int)} {last : Int} : (Zc5 Z r col last).length = Z.length:=by unfold Zc5;simp
theorem Zqz {Z : List (List Int)} {last : Int} (i : Nat) (hi : i < Z.length) : ((Zc5 Z r col last)[i]?.getD []).length = (Z[i]?.getD []).length:=by
 unfold Zc5;rw [List.getElem?_map,List.getElem?_range hi];simp only [Option.map_some,Option.getD_some]
 split
 ·rfl
 ·unfold Zoc;simp
theorem Zoq (hrow : ∀ i,i < n -> (R[i]?.getD []).length = m) {i j : Nat} (hi : i < n) (hj : m <= j) : Zm R i j = 0:=by
 unfold Zm;rw [List.getElem?_eq_none (by rw [hrow i hi];exact hj)];rfl
theorem EIZ.clear {Z : List (List Int)} {last : Int} (h : EIR B S n m col r R pc G s) (q : EIZ n m r R pc s Z last) (hc : col < m) (hr : r < n) (hp : Zm R r col ≠ 0) :
    EIZ n m (r + 1) (Zck R r col) (fun l=>if l = r then col else pc l) s (Zc5 Z r col last) (Z7 Z r col):=by
 have hl:=h.len;have hzl:=q.len;have h':=h.clear hc hr hp
 have he : ∀ i j,i < n -> Zm (Zck R r col) i j = if i <= r then Zm R i j else Zm R i j - Zm R i col / Zm R r col * Zm R r j:=
  fun i j hi=>Zhw (m:=m) (fun i hi=>h.row i (by omega)) (fun j hj=>h.low r j (Nat.le_refl _) hr hj) i j (by omega) (by omega)
 have hpl : ∀ l,l <= r -> Zdy (Zck R r col) (fun l=>if l = r then col else pc l) s l = Zdy R pc s l:=fun l hl=>Zll fun i hi=>by
  rw [he _ _ (by omega),if_pos (by omega),if_neg (by omega)]
 have hpr : Zdy (Zck R r col) (fun l=>if l = r then col else pc l) s (r + 1) = Zdy R pc s r * (s r * Zm R r col):=by
  rw [Zdy,Zan];have:=hpl r (Nat.le_refl r);unfold Zdy at this;rw [this,he _ _ hr,if_pos (Nat.le_refl r),if_pos rfl];rfl
 refine ⟨by rw [Zhn];exact hzl,fun i hi=>by rw [Zqz i (by omega)];exact q.row i hi,?_,fun i j hi=>?_⟩
 ·rw [hpr,q.ent r col hr,show min r r = r by omega]
 ·rw [Zql (m:=m) (fun i hi=>q.row i (by omega)) i j (by omega)]
  by_cases hir : i <= r
  ·rw [if_pos hir,hpl _ (by omega),he _ _ hi,if_pos hir,q.ent i j hi,show min i (r + 1) = min i r by omega]
  ·rw [if_neg hir]
   by_cases hj : j < m
   ·rw [if_pos hj]
    obtain ⟨z,hz1,-⟩:=h'.minor hi j;rw [show min i (r + 1) = r + 1 by omega,hpr,he _ _ hi,if_neg hir] at hz1;have hln:=q.last_ne h;have e1:=q.ent i j hi;have e2:=q.ent r col hr;have e3:=q.ent i col hi;have e4:=q.ent r j hr;have e5:=q.last;rw [show min i r = r by omega] at e1 e3;rw [show min r r = r by omega] at e2 e4
    have hkey : Z7 Z i j * Z7 Z r col - Z7 Z i col * Z7 Z r j = last * z:=Zfk (by
     rw [Rat.intCast_sub,Rat.intCast_mul,Rat.intCast_mul,Rat.intCast_mul,e1,e2,e3,e4,e5,<- hz1]
     grind)
    rw [hkey,Int.mul_comm,Int.mul_fdiv_cancel _ hln,<- hz1,show min i (r + 1) = r + 1 by omega,hpr,he _ _ hi,if_neg hir]
   ·rw [if_neg hj,Zoq (n:=n) h'.row hi (by omega)]
    have : ((0 : Int) : Rat) = 0:=rfl;rw [this];grind
end
def BdZ (C m : Nat) (Z : List (List Int)) : Prop:=(∀ i,i < Z.length -> (Z[i]?.getD []).length = m) /\ ∀ i j,(Z7 Z i j).natAbs < C
def BdR (C D m : Nat) (R : List (List Rat)) : Prop:=(∀ i,i < R.length -> (R[i]?.getD []).length = m) /\ ∀ i j,(Zm R i j).num.natAbs < C /\ (Zm R i j).den < D
def okZ (C m : Nat) : Nat -> Nat -> Nat -> List (List Int) -> Int -> Prop
 | 0,_,_,Z,last=>BdZ C m Z /\ last ≠ 0 /\ last.natAbs < C
 | f + 1,col,r,Z,last=>BdZ C m Z /\ (last ≠ 0 /\ last.natAbs < C) /\ (r = Z.length \/
     (Za7 (fun i=>Z7 Z i col == 0) Z.length Z.length r = Z.length -> okZ C m f (col + 1) r Z last) /\
     (Za7 (fun i=>Z7 Z i col == 0) Z.length Z.length r ≠ Z.length -> okZ C m f (col + 1) (r + 1) (Zc5 (Zac Z (Za7 (fun i=>Z7 Z i col == 0) Z.length Z.length r) r) r col last) (Z7 Z (Za7 (fun i=>Z7 Z i col == 0) Z.length Z.length r) col)))
def okR (C D m : Nat) : Nat -> Nat -> Nat -> List (List Rat) -> Prop
 | 0,_,_,R=>BdR C D m R
 | f + 1,col,r,R=>BdR C D m R /\ (r = R.length \/
     (Za7 (fun i=>Zm R i col == 0) R.length R.length r = R.length -> okR C D m f (col + 1) r R) /\
     (Za7 (fun i=>Zm R i col == 0) R.length R.length r ≠ R.length -> okR C D m f (col + 1) (r + 1) (Zck (Zac R (Za7 (fun i=>Zm R i col == 0) R.length R.length r) r) r col)))
def sgB (b : Bool) : Rat:=if b then -1 else 1
theorem Zsm {n k r : Nat} (f : Nat -> Rat) (hk : k < n) (hr : r < n) : Zan n (fun i=>f (swI k r i)) = Zan n f:=by
 by_cases hkr : k = r
 ·subst hkr;refine Zb2 fun i _=>?_
  unfold swI;split
  ·rename_i h;rw [h]
  ·rfl
 ·have key : ∀ n (f : Nat -> Rat) k r,k < r -> r < n -> Zan n (fun i=>f (swI k r i)) = Zan n f:=by
    intro n
    induction n with
    | zero=>intro f k r _ h;omega
    | succ n ih =>
     intro f k r hkr hr
     by_cases hrn : r = n
     ·subst hrn
      have hone : ∀ (m : Nat) (g h : Nat -> Rat),k < m -> (∀ i,i < m -> i ≠ k -> g i = h i) -> Zan m g * h k = Zan m h * g k:=by
       intro m
       induction m with
       | zero=>intro g h hk _;omega
       | succ m ihm =>
        intro g h hk he;simp only [Zan]
        by_cases hkm : k = m
        ·subst hkm
         rw [Zb2 (f:=g) (g:=h) (fun i hi=>he i (by omega) (by omega))];grind
        ·have:=ihm g h (by omega) (fun i hi=>he i (by omega))
         rw [he m (by omega) (by omega)];grind
      simp only [Zan]
      have e1 : swI k r r = k:=by unfold swI;rw [if_neg (by omega),if_pos rfl]
      have e2 : swI k r k = r:=by unfold swI;rw [if_pos rfl]
      have:=hone r (fun i=>f (swI k r i)) f hkr (fun i hi hik=>by unfold swI;rw [if_neg hik,if_neg (by omega)]);simp only [e2] at this;rw [e1];exact this
     ·simp only [Zan]
      rw [ih f k r hkr (by omega)]
      have : swI k r n = n:=by unfold swI;rw [if_neg (by omega),if_neg (by omega)]
      rw [this]
  rcases Nat.lt_or_gt_of_ne hkr with h | h
  ·exact key n f k r h hr
  ·have : ∀ i,swI k r i = swI r k i:=fun i=>by unfold swI;split <;> split <;> omega
   rw [<- key n f r k h hk]
   exact Zb2 fun i _=>by rw [this]
theorem Zus {n k r : Nat} (M : Nat -> Nat -> Rat) (hk : k < n) (hr : r < n) : Z6 n (fun a b=>M (swI k r a) b) = if k = r then Z6 n M else - Z6 n M:=by
 by_cases hkr : k = r
 ·subst hkr
  rw [if_pos rfl]
  refine Zau fun a b _ _=>?_
  unfold swI;split
  ·rename_i h;rw [h]
  ·rfl
 ·rw [if_neg hkr,<- Zsz M hk hr hkr]
  congr 1
  funext a b
  unfold swI Zaf
  by_cases h1 : a = k
  ·subst h1;rw [if_pos rfl,if_neg hkr,if_pos rfl]
  ·rw [if_neg h1]
   by_cases h2 : a = r
   ·rw [if_pos h2,if_pos h2]
   ·rw [if_neg h2,if_neg h2,if_neg h1]
theorem EIR.bdR {B S n m col r : Nat} {R : List (List Rat)} {pc : Nat -> Nat} {G : Nat -> Nat -> Rat} {s : Nat -> Rat} (h : EIR B S n m col r R pc G s) (hB : 1 <= B) (hS : 1 <= S) : BdR (Zay B n + 1) (Zay B n * S + 1) m R:=by
 have hl:=h.len;refine ⟨fun i hi=>h.row i (by omega),fun i j=>?_⟩
 by_cases hi : i < n
 ·have:=h.bound hB hi j;omega
 ·have : Zm R i j = 0:=by unfold Zm;rw [List.getElem?_eq_none (l:=R) (by omega)];rfl
  have h1 : 1 <= Zay B n:=Zcp (m:=0) hB (by omega);have h2 : 1 * 1 <= Zay B n * S:=Nat.mul_le_mul h1 hS;rw [this];refine ⟨by simp,?_⟩;rw [show (0 : Rat).den = 1 from rfl];omega
theorem EIZ.bdZ {B S n m col r : Nat} {R : List (List Rat)} {pc : Nat -> Nat} {G : Nat -> Nat -> Rat} {s : Nat -> Rat} {Z : List (List Int)} {last : Int} (h : EIR B S n m col r R pc G s) (k : EIZ n m r R pc s Z last) (hB : 1 <= B) : BdZ (Zay B n + 1) m Z:=by
 have hl:=k.len;refine ⟨fun i hi=>k.row i (by omega),fun i j=>?_⟩
 by_cases hi : i < n
 ·have:=k.bnd h hB hi j;omega
 ·have : Z7 Z i j = 0:=by unfold Z7;rw [List.getElem?_eq_none (l:=Z) (by omega)];rfl
  rw [this];simp
theorem Ze4 {B S n m : Nat} (hB : 1 <= B) (hS : 1 <= S) : ∀ (f col r : Nat) (R : List (List Rat)) (pc : Nat -> Nat) (G : Nat -> Nat -> Rat) (s : Nat -> Rat) (Z : List (List Int)) (neg : Bool) (last : Int),
    EIR B S n m col r R pc G s -> EIZ n m r R pc s Z last -> col + f <= m ->
    okZ (Zay B n + 1) m f col r Z last /\ okR (Zay B n + 1) (Zay B n * S + 1) m f col r R /\
    (Z0 f col r Z neg last).2.1 = (Zab f col r R neg).2.1 /\ (Z0 f col r Z neg last).2.2.1 = (Zab f col r R neg).2.2 /\
    ∃ col' pc' G' s',EIR B S n m col' (Zab f col r R neg).2.1 (Zab f col r R neg).1 pc' G' s' /\ EIZ n m (Zab f col r R neg).2.1 (Zab f col r R neg).1 pc' s' (Z0 f col r Z neg last).1 (Z0 f col r Z neg last).2.2.2 /\
     (col' = col + f \/ (Zab f col r R neg).2.1 = n /\ col' <= col + f) /\ Zan n s' = Zan n s /\ (∀ φ : Nat -> Nat,sgB (Zab f col r R neg).2.2 * Z6 n (fun a b=>G' a (φ b)) = sgB neg * Z6 n (fun a b=>G a (φ b)))
 | 0,col,r,R,pc,G,s,Z,neg,last,h,k,hm=>by
  have h1:=k.last_bnd h hB;exact ⟨⟨k.bdZ h hB,k.last_ne h,by omega⟩,h.bdR hB hS,rfl,rfl,col,pc,G,s,h,k,.inl rfl,rfl,fun φ=>rfl⟩
 | f + 1,col,r,R,pc,G,s,Z,neg,last,h,k,hm=>by
  have hRl:=h.len;have hZl:=k.len;have h1:=k.last_bnd h hB;have hrn:=h.rn
  have hpe : Za7 (fun i=>Z7 Z i col == 0) Z.length Z.length r = Za7 (fun i=>Zm R i col == 0) R.length R.length r:=by
   rw [hRl,hZl];exact Zom (by omega) hrn (fun i h1 h2=>k.zero h h2 col)
  unfold Z0 Zab okZ okR;simp only [hpe];rw [hRl] at hpe ⊢;simp only [hZl]
  by_cases hr : r = n
  ·simp only [if_pos hr]
   exact ⟨⟨k.bdZ h hB,⟨k.last_ne h,by omega⟩,.inl hr⟩,⟨h.bdR hB hS,.inl hr⟩,(by trivial),(by trivial),col,pc,G,s,h,k,.inr ⟨hr,by omega⟩,rfl,fun φ=>rfl⟩
  ·simp only [if_neg hr]
   obtain ⟨q,hq⟩ : ∃ q,Za7 (fun i=>Zm R i col == 0) n n r = q:=⟨_,rfl⟩;obtain ⟨p1,p2,p3,p4⟩:=Zef (z:=fun i=>Zm R i col == 0) (n:=n) (f:=n) (k:=r) (by omega) (by omega);rw [hq] at p1 p2 p3 p4;simp only [hq]
   by_cases hqn : q = n
   ·simp only [if_pos hqn]
    have hz : ∀ i,r <= i -> i < n -> Zm R i col = 0:=fun i h1 h2=>by simpa using p3 i h1 (by omega)
    obtain ⟨o1,o2,o3,o4,col',pc',G',s',o5,o6,o7,o8,o9⟩:=Ze4 hB hS f (col + 1) r R pc G s Z neg last (h.skip (by omega) hz) k (by omega);exact ⟨⟨k.bdZ h hB,⟨k.last_ne h,by omega⟩,.inr ⟨fun _=>o1,fun hn=>absurd hqn hn⟩⟩,⟨h.bdR hB hS,.inr ⟨fun _=>o2,fun hn=>absurd hqn hn⟩⟩,o3,o4,col',pc',G',s',o5,o6,by omega,o8,o9⟩
   ·simp only [if_neg hqn]
    have hqn' : q < n:=by omega
    have hpv : Zm R q col ≠ 0:=by simpa using p4 hqn'
    have hsw:=h.swap hqn' p1;have ksw:=k.swap h hqn' p1
    have hen : Zm (Zac R q r) r col = Zm R q col:=by
     rw [Zg4 (by omega) (by omega)];congr 1;unfold swI;split
     ·rename_i h;exact h
     ·rw [if_pos rfl]
    have hez : Z7 (Zac Z q r) r col = Z7 Z q col:=by
     rw [Zgw (by omega) (by omega)];congr 1;unfold swI;split
     ·rename_i h;exact h
     ·rw [if_pos rfl]
    have hcl:=hsw.clear (by omega) (by omega) (by rw [hen];exact hpv);have kcl:=ksw.clear hsw (by omega) (by omega) (by rw [hen];exact hpv);rw [hez] at kcl;obtain ⟨o1,o2,o3,o4,col',pc',G',s',o5,o6,o7,o8,o9⟩:=Ze4 hB hS f (col + 1) (r + 1) _ _ _ _ _ (neg != decide (q ≠ r)) _ hcl kcl (by omega);refine ⟨⟨k.bdZ h hB,⟨k.last_ne h,by omega⟩,.inr ⟨fun hn=>absurd hn hqn,fun _=>o1⟩⟩,⟨h.bdR hB hS,.inr ⟨fun hn=>absurd hn hqn,fun _=>o2⟩⟩,o3,o4,col',pc',G',s',o5,o6,by omega,?_,fun φ=>?_⟩
    ·rw [o8,Zsm s hqn' (by omega)]
    ·rw [o9,Zus (fun a b=>G a (φ b)) hqn' (by omega)]
     by_cases hqr : q = r
     ·rw [if_pos hqr]
      have : decide (q ≠ r) = false:=by simp [hqr]
      rw [this];cases neg <;> rfl
     ·rw [if_neg hqr]
      have : decide (q ≠ r) = true:=by simp [hqr]
      rw [this];cases neg <;> simp [sgB] <;> grind
def denTo (row : List Rat) : Nat -> Nat
 | 0=>1
 | k + 1=>denTo row k * ((row[k]?.getD 0).den / Nat.gcd (denTo row k) (row[k]?.getD 0).den)
def Zdg (row : List Rat) : List Int:=row.map fun f=>f.num * ((denTo row row.length / f.den : Nat) : Int)
def Zl (R : List (List Rat)) : List (List Int):=R.map Zdg
def denAt (R : List (List Rat)) (i : Nat) : Nat:=denTo (R[i]?.getD []) (R[i]?.getD []).length
theorem Zdo (row : List Rat) (k : Nat) : 0 < denTo row k:=by
 induction k with
 | zero=>exact Nat.one_pos
 | succ k ih =>
  refine Nat.mul_pos ih (Nat.div_pos (Nat.le_of_dvd (Rat.den_pos _) (Nat.gcd_dvd_right _ _)) (Nat.gcd_pos_of_pos_left _ ih))
theorem Zk4 (row : List Rat) (k : Nat) : denTo row k ∣ denTo row (k + 1) /\ (row[k]?.getD 0).den ∣ denTo row (k + 1):=by
 refine ⟨⟨_,rfl⟩,?_⟩;obtain ⟨c,hc⟩:=Nat.gcd_dvd_left (denTo row k) (row[k]?.getD 0).den;refine ⟨c,?_⟩;simp only [denTo];obtain ⟨d,hd⟩:=Nat.gcd_dvd_right (denTo row k) (row[k]?.getD 0).den;have hg : 0 < Nat.gcd (denTo row k) (row[k]?.getD 0).den:=Nat.gcd_pos_of_pos_left _ (Zdo row k)
 have e : (row[k]?.getD 0).den / Nat.gcd (denTo row k) (row[k]?.getD 0).den = d:=by
  rw [Nat.div_eq_iff_eq_mul_left hg (Nat.gcd_dvd_right _ _),Nat.mul_comm];exact hd
 rw [e]
 calc denTo row k * d = (Nat.gcd (denTo row k) (row[k]?.getD 0).den * c) * d:=by rw [<- hc]
  _ = (Nat.gcd (denTo row k) (row[k]?.getD 0).den * d) * c:=by rw [Nat.mul_assoc,Nat.mul_assoc,Nat.mul_comm c d]
  _ = (row[k]?.getD 0).den * c:=by rw [<- hd]
theorem Zjd (row : List Rat) {j : Nat} : ∀ {k : Nat},j < k -> (row[j]?.getD 0).den ∣ denTo row k
 | 0,h=>by omega
 | k + 1,h=>by
  by_cases hj : j = k
  ·rw [hj];exact (Zk4 row k).2
  ·exact Nat.dvd_trans (Zjd row (j:=j) (k:=k) (by omega)) (Zk4 row k).1
theorem Zn9 (row : List Rat) {D : Nat} (h : ∀ j : Nat,(row[j]?.getD 0).den <= D) (k : Nat) : denTo row k <= D ^ k:=by
 induction k with
 | zero=>exact Nat.le_refl _
 | succ k ih =>
  rw [Nat.pow_succ];exact Nat.mul_le_mul ih (Nat.le_trans (Nat.div_le_self _ _) (h k))
theorem Ziv (row : List Rat) : (Zdg row).length = row.length:=by unfold Zdg;simp
theorem Zn2 (row : List Rat) (j : Nat) : (((Zdg row)[j]?.getD 0 : Int) : Rat) = (denTo row row.length : Nat) * row[j]?.getD 0:=by
 unfold Zdg;rw [List.getElem?_map]
 by_cases hj : j < row.length
 ·rw [List.getElem?_eq_getElem hj]
  simp only [Option.map_some,Option.getD_some];have hd:=Zjd row hj;rw [List.getElem?_eq_getElem hj] at hd;simp only [Option.getD_some] at hd;obtain ⟨c,hc⟩:=hd;rw [hc,Nat.mul_div_cancel_left _ (Rat.den_pos _),Rat.intCast_mul,Rat.intCast_natCast,Rat.natCast_mul]
  have e0 : ((row[j].num : Int) : Rat) / ((row[j].den : Nat) : Rat) = row[j]:=by have:=Rat.num_divInt_den row[j];rw [Rat.divInt_eq_div,Rat.intCast_natCast] at this;exact this
  have e1 : ((row[j].den : Nat) : Rat) ≠ 0:=by
   intro h;have : row[j].den = 0:=by exact_mod_cast h
   have:=row[j].den_pos;omega
  have e2 : ((row[j].num : Int) : Rat) = row[j] * ((row[j].den : Nat) : Rat):=by rw [<- e0];grind
  rw [e2];grind
 ·rw [List.getElem?_eq_none (by omega)]
  simp only [Option.map_none,Option.getD_none];have : ((0 : Int) : Rat) = 0:=rfl;rw [this];grind
theorem Zfn (R : List (List Rat)) (i j : Nat) : ((Z7 (Zl R) i j : Int) : Rat) = (denAt R i : Nat) * Zm R i j:=by
 unfold Z7 Zl Zm denAt;rw [List.getElem?_map]
 cases h : R[i]? with
 | none=>simp only [Option.map_none,Option.getD_none,List.getElem?_nil];have : ((0 : Int) : Rat) = 0:=rfl
         rw [this];grind
 | some row=>simp only [Option.map_some,Option.getD_some];exact Zn2 row j
theorem Zh1 {B S n m : Nat} (R : List (List Rat)) (hl : R.length = n) (hrow : ∀ i,i < n -> (R[i]?.getD []).length = m) (hS : ∀ i,i < n -> denAt R i <= S) (hBd : ∀ i j,i < n -> (Z7 (Zl R) i j).natAbs <= B) :
    EIR B S n m 0 0 R (fun _=>0) (fun i j=>(denAt R i : Nat) * Zm R i j) (fun i=>(denAt R i : Nat)) /\ EIZ n m 0 R (fun _=>0) (fun i=>(denAt R i : Nat)) (Zl R) 1:=by
 refine ⟨⟨hl,hrow,fun l h=>by omega,fun l l' _ h=>by omega,fun i j _ _ h=>by omega,fun l j h=>by omega,fun l h=>by omega,Nat.zero_le _,Nat.zero_le _,fun i hi=>⟨⟨(denAt R i : Nat),by rw [Rat.intCast_natCast],by rw [Int.natAbs_natCast];exact hS i hi⟩,fun h0=>?_⟩,fun i j hi=>⟨_,(Zfn R i j).symm,hBd i j hi⟩,fun N f σ _ _ _=>rfl⟩,⟨by unfold Zl;simp [hl],fun i hi=>?_,rfl,fun i j hi=>?_⟩⟩
 ·have : denAt R i = 0:=by exact_mod_cast h0
  have:=Zdo (R[i]?.getD []) (R[i]?.getD []).length;unfold denAt at *;omega
 ·unfold Zl
  rw [List.getElem?_map,List.getElem?_eq_getElem (by omega)];simp only [Option.map_some,Option.getD_some];rw [Ziv];have:=hrow i hi;rw [List.getElem?_eq_getElem (by omega)] at this;exact this
 ·rw [Zfn]
  have : Zdy R (fun _=>0) (fun i=>((denAt R i : Nat) : Rat)) (min i 0) = 1:=by rw [show min i 0 = 0 by omega];rfl
  rw [this];grind
def rankR (R : List (List Rat)) (cols : Nat) : Nat:=(Zab cols 0 0 R false).2.1
def Zmf (R : List (List Rat)) (cols : Nat) : Nat:=(Z0 cols 0 0 (Zl R) false 1).2.1
def Zhr (R : List (List Rat)) : Rat:=
 if (Zab R.length 0 0 R false).2.1 < R.length then 0
 else sgB (Zab R.length 0 0 R false).2.2 * Zan R.length (fun i=>Zm (Zab R.length 0 0 R false).1 i i)
def byZ (R : List (List Rat)) : Nat -> Nat
 | 0=>1
 | k + 1=>byZ R k * denAt R k
def Zd1 (R : List (List Rat)) : Int:=
 if (Z0 R.length 0 0 (Zl R) false 1).2.2.1 then -(if (Z0 R.length 0 0 (Zl R) false 1).2.1 < R.length then 0 else (Z0 R.length 0 0 (Zl R) false 1).2.2.2)
 else if (Z0 R.length 0 0 (Zl R) false 1).2.1 < R.length then 0 else (Z0 R.length 0 0 (Zl R) false 1).2.2.2
theorem Zim (R : List (List Rat)) (k : Nat) : ((byZ R k : Nat) : Rat) = Zan k (fun i=>((denAt R i : Nat) : Rat)):=by
 induction k with
 | zero=>rfl
 | succ k ih=>simp only [byZ,Zan];rw [Rat.natCast_mul,ih]
theorem Zfi (R : List (List Rat)) (k : Nat) : 0 < byZ R k:=by
 induction k with
 | zero=>exact Nat.one_pos
 | succ k ih=>exact Nat.mul_pos ih (Zdo _ _)
theorem Zm3 {n : Nat} (f g : Nat -> Rat) : Zan n (fun i=>f i * g i) = Zan n f * Zan n g:=by
 induction n with
 | zero=>simp only [Zan];grind
 | succ n ih=>simp only [Zan];rw [ih];grind
theorem Zla {n : Nat} {f : Nat -> Rat} {k : Nat} (hk : k < n) (h : f k = 0) : Zan n f = 0:=by
 induction n with
 | zero=>omega
 | succ n ih =>
  simp only [Zan]
  by_cases hkn : k = n
  ·rw [<- hkn,h];grind
  ·rw [ih (by omega)];grind
theorem Zkc {n : Nat} (M : Nat -> Nat -> Rat) (s : Nat -> Rat) : Z6 n (fun a b=>s a * M a b) = Zan n s * Z6 n M:=by
 have key : ∀ m,m <= n -> Z6 n (fun a b=>if a < m then s a * M a b else M a b) = Zan m s * Z6 n M:=by
  intro m
  induction m with
  | zero=>intro _;simp only [Zan];rw [Zau (N:=M) (fun a b _ _=>if_neg (Nat.not_lt_zero a))];grind
  | succ m ih =>
   intro hm;have h0:=ih (by omega);have h1:=Zf7 (n:=n) (fun a b=>if a < m then s a * M a b else M a b) (k:=m) (by omega) (M m) (M m) (s m) 0
   have e1 : Zaf (fun a b=>if a < m then s a * M a b else M a b) m (fun b=>s m * M m b + 0 * M m b) = fun a b=>if a < m + 1 then s a * M a b else M a b:=by
    funext a b
    unfold Zaf
    by_cases ha : a = m
    ·subst ha;rw [if_pos rfl,if_pos (by omega)];grind
    ·rw [if_neg ha]
     by_cases h2 : a < m
     ·rw [if_pos (by omega)];simp only [if_pos h2]
     ·rw [if_neg (by omega)];simp only [if_neg h2]
   have e2 : Zaf (fun a b=>if a < m then s a * M a b else M a b) m (M m) = fun a b=>if a < m then s a * M a b else M a b:=by
    funext a b
    unfold Zaf
    by_cases ha : a = m
    ·subst ha;rw [if_pos rfl,if_neg (by omega)]
    ·rw [if_neg ha]
   rw [e1,e2,h0] at h1;rw [h1];simp only [Zan];grind
 rw [<- key n (Nat.le_refl _)]
 exact Zau fun a b ha _=>by rw [if_pos ha]
section
variable {B S n m : Nat}
theorem EIR.diag {col : Nat} {R : List (List Rat)} {pc : Nat -> Nat} {G : Nat -> Nat -> Rat} {s : Nat -> Rat} (h : EIR B S n m col n R pc G s) (hc : col <= n) {l : Nat} (hl : l < n) : pc l = l:=by
 have h1 : ∀ l,l < n -> l <= pc l:=by
  intro l
  induction l with
  | zero=>intro _;omega
  | succ l ih=>intro hl;have:=ih (by omega);have:=h.inc l (l + 1) (by omega) hl;omega
 have h2 : ∀ d l,l + d + 1 = n -> pc l + d < n:=by
  intro d
  induction d with
  | zero=>intro l hl;have:=h.pcl l (by omega);omega
  | succ d ih=>intro l hl;have:=ih (l + 1) (by omega);have:=h.inc l (l + 1) (by omega) (by omega);omega
 have:=h1 l hl;have:=h2 (n - l - 1) l (by omega);omega
theorem Zm6 (hB : 1 <= B) (hS : 1 <= S) (R : List (List Rat)) (hl : R.length = n) (hrow : ∀ i,i < n -> (R[i]?.getD []).length = m) (hs : ∀ i,i < n -> denAt R i <= S) (hBd : ∀ i j,i < n -> (Z7 (Zl R) i j).natAbs <= B) {cols : Nat} (hc : cols <= m) :
    okZ (Zay B n + 1) m cols 0 0 (Zl R) 1 /\ okR (Zay B n + 1) (Zay B n * S + 1) m cols 0 0 R /\ Zmf R cols = rankR R cols:=by
 obtain ⟨h1,h2⟩:=Zh1 R hl hrow hs hBd;obtain ⟨o1,o2,o3,-⟩:=Ze4 hB hS cols 0 0 R _ _ _ _ false 1 h1 h2 (by omega);exact ⟨o1,o2,o3⟩
theorem Zoh (hB : 1 <= B) (hS : 1 <= S) (R : List (List Rat)) (hl : R.length = n) (hrow : ∀ i,i < n -> (R[i]?.getD []).length = n) (hs : ∀ i,i < n -> denAt R i <= S) (hBd : ∀ i j,i < n -> (Z7 (Zl R) i j).natAbs <= B) :
    Rat.divInt (Zd1 R) (byZ R n) = Zhr R /\ Zhr R = Z6 n (Zm R) /\ (Zd1 R).natAbs <= Zay B n:=by
 obtain ⟨h1,h2⟩:=Zh1 R hl hrow hs hBd;obtain ⟨o1,o2,o3,o4,col',pc',G',s',o5,o6,o7,o8,o9⟩:=Ze4 hB hS n 0 0 R _ _ _ _ false 1 h1 h2 (by omega)
 have hby : ((byZ R n : Nat) : Rat) ≠ 0:=by
  intro h;have : byZ R n = 0:=by exact_mod_cast h
  have:=Zfi R n;omega
 have hdG:=o9 (fun b=>b);rw [Zkc (fun a b=>Zm R a b) (fun a=>((denAt R a : Nat) : Rat)),<- Zim] at hdG;have hs1 : sgB false = 1:=rfl;rw [hs1] at hdG
 have hsq : ∀ b,sgB b * sgB b = 1:=by intro b;cases b <;> simp [sgB] <;> grind
 unfold Zhr Zd1;rw [hl,o3,o4]
 by_cases hr : (Zab n 0 0 R false).2.1 < n
 ·simp only [if_pos hr]
  have hz : Z6 n (Zm R) = 0:=by
   have hE:=o5.det n (fun b=>b) (fun a=>a) (fun a ha=>ha) (fun a _=>rfl) (fun a ha=>ha)
   have hcn : col' = n:=by omega
   have h0 : Z6 n (fun a b=>s' a * Zm (Zab n 0 0 R false).1 a b) = 0:=by
    rw [Zez]
    ·refine Zla (k:=n - 1) (by omega) ?_
     rw [o5.low (n - 1) (n - 1) (by omega) (by omega) (by omega)];grind
    ·intro a b ha hb
     by_cases har : a < (Zab n 0 0 R false).2.1
     ·have : ∀ l,l < (Zab n 0 0 R false).2.1 -> l <= pc' l:=by
        intro l
        induction l with
        | zero=>intro _;omega
        | succ l ih=>intro hl;have:=ih (by omega);have:=o5.inc l (l + 1) (by omega) hl;omega
      have:=this a har;rw [o5.bef a b har (by omega)];grind
     ·rw [o5.low a b (by omega) ha (by omega)];grind
   rw [hE] at h0;rw [h0] at hdG
   have : ((byZ R n : Nat) : Rat) * Z6 n (Zm R) = 0:=by grind
   rcases Rat.mul_eq_zero.1 this with h | h
   ·exact absurd h hby
   ·exact h
  refine ⟨?_,hz.symm,?_⟩
  ·split
   ·rw [Int.neg_zero,Rat.zero_divInt]
   ·rw [Rat.zero_divInt]
  ·split <;> simp
 ·have hrn : (Zab n 0 0 R false).2.1 = n:=by have:=o5.rn;omega
  simp only [if_neg hr];rw [hrn] at o5 o6;have hlast:=o6.last
  have hpl : Zdy (Zab n 0 0 R false).1 pc' s' n = Zan n s' * Zan n (fun i=>Zm (Zab n 0 0 R false).1 i i):=by
   unfold Zdy;rw [<- Zm3]
   refine Zb2 fun i hi=>?_
   rw [o5.diag (by omega) hi]
  rw [hpl,o8,<- Zim] at hlast;have hE:=o5.det n (fun b=>b) (fun a=>a) (fun a ha=>ha) (fun a _=>rfl) (fun a ha=>by omega)
  have hE2 : Z6 n (fun a b=>s' a * Zm (Zab n 0 0 R false).1 a b) = Zan n s' * Zan n (fun i=>Zm (Zab n 0 0 R false).1 i i):=by
   rw [Zez,Zm3];intro a b ha hb;rw [o5.bef a b ha (by rw [o5.diag (by omega) ha];exact hb)];grind
  rw [hE,o8,<- Zim] at hE2;rw [hE2] at hdG;have hq:=hsq (Zab n 0 0 R false).2.2;refine ⟨?_,?_,?_⟩
  ·rw [Rat.divInt_eq_div,Rat.intCast_natCast]
   unfold sgB
   split
   ·rw [Rat.intCast_neg,hlast];grind
   ·rw [hlast];grind
  ·grind
  ·have:=o6.last_bnd o5 hB
   split
   ·rw [Int.natAbs_neg];exact this
   ·exact this
end
end Go.Proofs.YtigdclhagmnopaaGreat
