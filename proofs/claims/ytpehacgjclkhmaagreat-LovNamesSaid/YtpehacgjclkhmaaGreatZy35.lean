/- Covariances as they come in: what is valid, and how great -/
import Derived.Test.YtpehacgjclkhmaaGreatZy34
import Derived.Test.YtpehacgjclkhmaaGreatZy27
set_option linter.unusedSimpArgs false
set_option linter.unusedVariables false
namespace Go.Proofs.YtpehacgjclkhmaaGreat
open Go.RowKit
def FX.fine64 (e : FX) : Bool:=decide (e.few <= 64) && e.ok
def Zdg (es : List FX) : Bool:=es.all FX.fine64
def RX.long6 (r : RX) : Bool:=decide (6 < r.n)
def long6 (rs : List RX) : Bool:=decide (6 < rs.length) || rs.any RX.long6
def Zck (k : Nat) (r : RX) : Bool:=decide (r.n = k) && Zdg r.es
def Zey (Q : List (List Rat)) : Bool:=decide (∀ i,i < Q.length -> ∀ k,k < i -> Zm Q i k = Zm Q k i)
def Zls (A : Nat -> Nat -> Rat) (n : Nat) : Bool:=decide (∀ t,t < n -> 0 < dQ A t)
theorem posB_iff {A : Nat -> Nat -> Rat} {n : Nat} : Zls A n = true ↔ posP A n:=by unfold Zls posP;rw [decide_eq_true_eq]
def Za8 (rs : List RX) : Int:=if long6 rs = true then 4 else if rs.length = 0 then 8 else if rs.all (Zck rs.length) = true then (if (Zey (qM rs) && Zls (Zm (qM rs)) rs.length) = true then 0 else 8) else 8
section
variable {rs : List RX}
theorem Zf9 (h : long6 rs = true) : Za8 rs = 4:=by unfold Za8;rw [if_pos h]
theorem Zqn (h : long6 rs = false) (h0 : rs.length = 0) : Za8 rs = 8:=by unfold Za8;rw [if_neg (by simp [h]),if_pos h0]
theorem Zpw (h : long6 rs = false) (h0 : rs.length ≠ 0) {r : RX} (hr : r ∈ rs) (hb : Zck rs.length r = false) : Za8 rs = 8:=by
 unfold Za8;rw [if_neg (by simp [h]),if_neg h0,if_neg];intro e;rw [List.all_eq_true] at e;have:=e r hr;rw [hb] at this;cases this
theorem Zmm (h : Za8 rs = 0) : 0 < rs.length /\ rs.length <= 6 /\ (∀ r ∈ rs,r.n = rs.length /\ Zdg r.es = true) /\ Zey (qM rs) = true /\ posP (Zm (qM rs)) rs.length:=by
 unfold Za8 at h
 by_cases h1 : long6 rs = true
 ·rw [if_pos h1] at h;cases h
 rw [if_neg h1] at h
 by_cases h2 : rs.length = 0
 ·rw [if_pos h2] at h;cases h
 rw [if_neg h2] at h
 by_cases h3 : rs.all (Zck rs.length) = true
 ·rw [if_pos h3] at h
  by_cases h4 : (Zey (qM rs) && Zls (Zm (qM rs)) rs.length) = true
  ·rw [Bool.and_eq_true] at h4
   have h5 : long6 rs = false:=by simpa using h1
   unfold long6 at h5;rw [Bool.or_eq_false_iff] at h5;have h6:=of_decide_eq_false h5.1;refine ⟨by omega,by omega,fun r hr=>?_,h4.1,posB_iff.1 h4.2⟩;rw [List.all_eq_true] at h3;have h7:=h3 r hr;unfold Zck at h7;rw [Bool.and_eq_true,decide_eq_true_eq] at h7;exact h7
  ·rw [if_neg h4] at h;cases h
 ·rw [if_neg h3] at h;cases h
theorem symB_iff {Q : List (List Rat)} : Zey Q = true ↔ ∀ i k,i < Q.length -> k < Q.length -> Zm Q i k = Zm Q k i:=by
 unfold Zey;rw [decide_eq_true_eq]
 constructor
 ·intro h i k hi hk
  rcases Nat.lt_trichotomy i k with h1 | h1 | h1
  ·exact (h k hk i h1).symm
  ·rw [h1]
  ·exact h i hi k h1
 ·intro h i hi k hk
  exact h i k hi (by omega)
theorem Zq6 {es : List FX} (h : Zdg es = true) : ∀ e ∈ es,e.ok = true:=fun e he=>by
 unfold Zdg at h;rw [List.all_eq_true] at h;have:=h e he;unfold FX.fine64 at this;rw [Bool.and_eq_true] at this;exact this.2
end
def fewM (k : Nat) (rs : List RX) : Prop:=∀ r ∈ rs,∀ e ∈ r.es,e.few <= k \/ 64 < e.few
section
variable {w : World} {A : Option Addr} {n c : Nat} {rs : List RX}
theorem Zqm {e : FX} (hin : e.in_ w) (hk : e.ok = true) {k : Nat} (hf : e.few <= k) : (e.q).num.natAbs <= pw k /\ (e.q).den <= pw k:=by
 have h1 : Fr w e.na e.A e.n e.c e.nb e.B e.m e.d e.q:=Zmi hin.1 hin.2 hk;have h2:=h1.1.lim.len;have h3:=h1.2.lim.len;unfold FX.few at hf
 constructor
 ·have h4:=Nat.le_of_lt (Za1 e.q.num.natAbs)
  rw [h2] at h4;exact Nat.le_trans h4 (Ze0 (by omega))
 ·have h4:=Nat.le_of_lt (Za1 ((e.q.den : Int).natAbs))
  rw [h3] at h4;simp only [Int.natAbs_natCast] at h4;exact Nat.le_trans h4 (Ze0 (by omega))
end
attribute [local go_sem] Zg
theorem Zqc {t : Array Value} {d : Nat} {u : Value} (h : t[d]? = some u) : t.setIfInBounds d u = t:=by
 apply Array.ext
 ·simp
 ·intro i h1 h2
  rw [Array.getElem_setIfInBounds (by simpa using h1)]
  split
  ·rename_i e
   subst e;rw [Array.getElem?_eq_getElem h2] at h
   injection h with h
   exact h.symm
  ·rfl
section
variable {P : Program} {ops : Array Oper} {Q : Exit -> Act -> World -> Prop} {md : Region.Mode} {L : List Nat} {S : World -> Prop} {f1 f2 d1 d2 F : Nat} {t1 t2 : TypeId} {z1 z2 : Array Value}
theorem Zex {i : Nat} {o : Oper} {K : Act -> World -> Prop} {a : Act} {w : World} (ho : ops[i]? = some o)
    (h : ∀ K' : Act -> World -> Prop,Shut (∀ a w,K a w -> K' a w) -> if Region.wanted o (yielded ops a.tmps) = true then Oper.wp P o a w K' Q else K' (a.put o.dst undef) w) : wpOp P ops Q i K a w:=
 wpOp_step ho (fun K' hK=>h K' hK)
end
def Z7 (md : Region.Mode) (ops : Array Oper) (i : Nat) : List Nat:=match ops[i]? with | some o=>(o.after.toList.filter (fun e=>Region.binds md e)).map (·.on) | none=>[]
def Zae (ops : Array Oper) (i : Nat) : Nat:=match ops[i]? with | some o=>o.dst.getD 0 | none=>0
def Zah (R : List Nat) (l : Array Bool) : Array Bool:=R.foldl (fun l i=>l.setIfInBounds i true) l
def clo (md : Region.Mode) (ops : Array Oper) : List Nat -> List Nat -> List Nat
 | [],c=>c
 | r :: rs,c=>clo md ops rs (if c.contains r then Z7 md ops r ++ c else c)
def Zaw : List Nat -> Bool
 | []=>true
 | x :: l=>!l.contains x && Zaw l
def Za2 : List Nat -> Act -> (Nat -> Value) -> Act
 | [],a,_=>a
 | d :: ds,a,ν=>Za2 ds (a.put (some d) (ν d)) ν
def upd (ν : Nat -> Value) (d : Nat) (v : Value) : Nat -> Value:=fun k=>if k = d then v else ν k
theorem Zp8 {a : Act} {d e : Nat} {u v : Value} (h : d ≠ e) : (a.put (some d) u).put (some e) v = (a.put (some e) v).put (some d) u:=by
 simp only [Act.put];rw [Array.setIfInBounds_comm _ _ h]
theorem Zob {ds : List Nat} {a : Act} {ν : Nat -> Value} {d : Nat} {v : Value} (h : d ∉ ds) : Za2 ds (a.put (some d) v) ν = (Za2 ds a ν).put (some d) v:=by
 induction ds generalizing a with
 | nil=>rfl
 | cons e ds ih =>
  have h1 : d ≠ e:=fun h'=>h (h' ▸ List.mem_cons_self ..)
  show Za2 ds ((a.put (some d) v).put (some e) (ν e)) ν = _;rw [Zp8 h1,ih (fun h'=>h (List.mem_cons_of_mem _ h'))]
  rfl
theorem Zig {ds : List Nat} {a : Act} {ν : Nat -> Value} {d : Nat} {v : Value} (h : d ∉ ds) : Za2 ds a (upd ν d v) = Za2 ds a ν:=by
 induction ds generalizing a with
 | nil=>rfl
 | cons e ds ih =>
  have h1 : e ≠ d:=fun h'=>h (h' ▸ List.mem_cons_self ..)
  show Za2 ds (a.put (some e) (upd ν d v e)) (upd ν d v) = Za2 ds (a.put (some e) (ν e)) ν;rw [ih (fun h'=>h (List.mem_cons_of_mem _ h'))];simp only [upd,if_neg h1]
theorem put_put {a : Act} {d : Nat} {u v : Value} : (a.put (some d) u).put (some d) v = a.put (some d) v:=by
 simp only [Act.put];rw [Array.setIfInBounds_setIfInBounds]
theorem Zaq {x : Nat} {l : List Nat} (h : Zaw (x :: l) = true) : x ∉ l /\ Zaw l = true:=by
 simp only [Zaw,Bool.and_eq_true,Bool.not_eq_true'] at h;exact ⟨fun hx=>by rw [List.contains_iff_mem.2 hx] at h;exact absurd h.1 (by simp),h.2⟩
theorem Zgg {ds : List Nat} {a : Act} {ν : Nat -> Value} {d : Nat} {v : Value} (h : d ∈ ds) (hn : Zaw ds = true) : (Za2 ds a ν).put (some d) v = Za2 ds a (upd ν d v):=by
 induction ds generalizing a with
 | nil=>cases h
 | cons e ds ih =>
  obtain ⟨h1,h2⟩:=Zaq hn;show (Za2 ds (a.put (some e) (ν e)) ν).put (some d) v = Za2 ds (a.put (some e) (upd ν d v e)) (upd ν d v)
  by_cases hd : d = e
  ·subst hd
   rw [<- Zob h1,put_put,Zig h1];simp only [upd,if_true]
  ·rcases List.mem_cons.1 h with h' | h'
   ·exact absurd h' hd
   ·rw [ih h' h2]
    simp only [upd,if_neg (Ne.symm hd)]
theorem Zl7 {ds : List Nat} {a : Act} : Za2 ds a (fun d=>a.tmps.getD d undef) = a:=by
 induction ds with
 | nil=>rfl
 | cons d ds ih =>
  show Za2 ds (a.put (some d) (a.tmps.getD d undef)) _ = a
  have : a.put (some d) (a.tmps.getD d undef) = a:=by
   cases a with
   | mk t df =>
    simp only [Act.put]
    congr 1
    rcases Nat.lt_or_ge d t.size with h | h
    ·exact Zqc (by rw [Array.getD_eq_getD_getElem?,Array.getElem?_eq_getElem h];rfl)
    ·exact Array.setIfInBounds_eq_of_size_le h
  rw [this];exact ih
theorem Za6 (R : List Nat) (l : Array Bool) (k : Nat) : (Zah R l).getD k true = if k ∈ R then true else l.getD k true:=by
 unfold Zah
 induction R generalizing l with
 | nil=>simp
 | cons r R ih =>
  rw [List.foldl_cons,ih]
  by_cases h1 : k ∈ R
  ·rw [if_pos h1,if_pos (List.mem_cons_of_mem _ h1)]
  ·rw [if_neg h1]
   by_cases h2 : k = r
   ·subst h2
    rw [if_pos (List.mem_cons_self ..)];rw [Array.getD_eq_getD_getElem?,Array.getElem?_setIfInBounds]
    split
    ·split <;> rfl
    ·rename_i h;exact absurd rfl h
   ·rw [if_neg (fun h=>by rcases List.mem_cons.1 h with h | h;exact h2 h;exact h1 h),Go.getD_set_ne true (Ne.symm h2)]
theorem Zdq (R : List Nat) (l : Array Bool) : (Zah R l).size = l.size:=by
 unfold Zah
 induction R generalizing l with
 | nil=>rfl
 | cons r R ih=>rw [List.foldl_cons,ih];simp
theorem Zmt {l m : Array Bool} (hs : l.size = m.size) (h : ∀ k,l.getD k true = m.getD k true) : l = m:=by
 apply Array.ext hs
 intro i h1 h2;have:=h i;rw [Array.getD_eq_getD_getElem?,Array.getD_eq_getD_getElem?,Array.getElem?_eq_getElem h1,Array.getElem?_eq_getElem h2] at this;exact this
section
variable {P : Program} {ops : Array Oper} {Q : Exit -> Act -> World -> Prop} {md : Region.Mode} {L : List Nat} {S : World -> Prop}
theorem Zlx {l : Array Bool} {R : List Nat} (hd : ∀ r ∈ R,l.getD r false = true -> ∀ p ∈ Z7 md ops r,l.getD p false = true) :
    ∀ (rs : List Nat) (c : List Nat),(∀ r ∈ rs,r ∈ R) -> (∀ x ∈ c,l.getD x false = true) -> ∀ x ∈ clo md ops rs c,l.getD x false = true
 | [],c,_,hc,x,hx=>hc x hx
 | r :: rs,c,hr,hc,x,hx=>by
  refine Zlx hd rs _ (fun y hy=>hr y (List.mem_cons_of_mem _ hy)) (fun y hy=>?_) x hx
  split at hy
  ·rename_i h1
   rcases List.mem_append.1 hy with h2 | h2
   ·exact hd r (hr r (List.mem_cons_self ..)) (hc r (List.contains_iff_mem.1 h1)) y h2
   ·exact hc y h2
  ·exact hc y hy
theorem Zcv {l : Array Bool} {k : Nat} (h : l.getD k false = true) : l.getD k true = true:=by
 rw [Array.getD_eq_getD_getElem?] at h ⊢
 cases hk : l[k]? with
 | none=>rfl
 | some b=>rw [hk] at h;exact h
theorem Z2 {l : Array Bool} {k j : Nat} (h : l.getD k false = true) : (l.setIfInBounds j true).getD k false = true:=by
 by_cases hkj : j = k
 ·subst hkj
  rw [Array.getD_eq_getD_getElem?,Array.getElem?_setIfInBounds_self];rw [Array.getD_eq_getD_getElem?] at h
  split
  ·rfl
  ·rename_i h1;rw [Array.getElem?_eq_none (by omega)] at h;cases h
 ·rw [Go.getD_set_ne false hkj];exact h
theorem Zhv {i : Nat} {l : Array Bool} (h : i ∈ Region.ready md ops l) : l.getD i true = false /\ i < ops.size /\ ∀ p ∈ Z7 md ops i,l.getD p false = true:=by
 obtain ⟨h1,o,ho,h2⟩:=mem_ready.1 h;refine ⟨h1,(Array.getElem?_eq_some_iff.1 ho).1,fun p hp=>?_⟩;unfold Z7 at hp;rw [ho] at hp;obtain ⟨e,he,rfl⟩:=List.mem_map.1 hp;rw [List.mem_filter] at he;exact h2 e (by simpa using he.1) he.2
theorem Zd8 {i : Nat} {l : Array Bool} (h1 : l.getD i true = false) {o : Oper} (ho : ops[i]? = some o) (h : ∀ p ∈ Z7 md ops i,l.getD p false = true) : i ∈ Region.ready md ops l:=by
 refine mem_ready.2 ⟨h1,o,ho,fun e he hb=>h _ ?_⟩;unfold Z7;rw [ho];exact List.mem_map.2 ⟨e,List.mem_filter.2 ⟨by simpa using he,hb⟩,rfl⟩
def left (R : List Nat) (l : Array Bool) : Nat:=(R.filter fun r=>!l.getD r true).length
theorem Zhx {f : Nat -> Nat} : ∀ {R : List Nat},Zaw (R.map f) = true -> Zaw R = true
 | [],_=>rfl
 | r :: R,h=>by
  obtain ⟨h1,h2⟩:=Zaq (x:=f r) (l:=R.map f) h;simp only [Zaw,Bool.and_eq_true,Bool.not_eq_true'];refine ⟨?_,Zhx h2⟩
  cases hc : R.contains r with
  | false=>rfl
  | true=>exact absurd (List.mem_map.2 ⟨r,List.contains_iff_mem.1 hc,rfl⟩) h1
theorem Zdl {f : Nat -> Nat} : ∀ {R : List Nat},Zaw (R.map f) = true -> ∀ {r i : Nat},r ∈ R -> i ∈ R -> r ≠ i -> f r ≠ f i
 | [],_,_,_,h,_,_=>by cases h
 | x :: R,h,r,i,hr,hi,hne=>by
  obtain ⟨h1,h2⟩:=Zaq (x:=f x) (l:=R.map f) h
  rcases List.mem_cons.1 hr with hr' | hr'
  ·rcases List.mem_cons.1 hi with hi' | hi'
   ·exact absurd (hr'.trans hi'.symm) hne
   ·exact fun e=>h1 (List.mem_map.2 ⟨i,hi',by rw [<- e,hr']⟩)
  ·rcases List.mem_cons.1 hi with hi' | hi'
   ·exact fun e=>h1 (List.mem_map.2 ⟨r,hr',by rw [e,hi']⟩)
   ·exact Zdl h2 hr' hi' hne
theorem Zol {R : List Nat} {l : Array Bool} {i : Nat} (hi : i ∉ R) : left R (l.setIfInBounds i true) = left R l:=by
 unfold left
 congr 1
 apply List.filter_congr
 intro r hr;rw [Go.getD_set_ne true (fun e : i = r=>hi (e ▸ hr))]
theorem Zhp {R : List Nat} {l : Array Bool} {i : Nat} (hn : Zaw R = true) (hi : i ∈ R) (h : l.getD i true = false) : left R (l.setIfInBounds i true) + 1 = left R l:=by
 have hlt : i < l.size:=by
  rcases Nat.lt_or_ge i l.size with h' | h'
  ·exact h'
  ·rw [Array.getD_eq_getD_getElem?,Array.getElem?_eq_none h'] at h;cases h
 have hset : (l.setIfInBounds i true).getD i true = true:=by
  rw [Array.getD_eq_getD_getElem?,Array.getElem?_setIfInBounds_self,if_pos hlt];rfl
 induction R with
 | nil=>cases hi
 | cons r R ih =>
  obtain ⟨n1,n2⟩:=Zaq hn
  by_cases hr : i = r
  ·subst hr
   have:=Zol (l:=l) n1;unfold left at this ⊢;rw [List.filter_cons_of_neg (by simp [hset]),List.filter_cons_of_pos (by simp [h]),this]
   rfl
  ·have hi2 : i ∈ R:=by
     rcases List.mem_cons.1 hi with h' | h'
     ·exact absurd h' hr
     ·exact h'
   have:=ih n2 hi2;unfold left at this ⊢
   by_cases hb : l.getD r true = true
   ·rw [List.filter_cons_of_neg (by rw [Go.getD_set_ne true hr];simp [hb]),List.filter_cons_of_neg (by simp [hb])];exact this
   ·rw [List.filter_cons_of_pos (by rw [Go.getD_set_ne true hr];simpa using hb),List.filter_cons_of_pos (by simpa using hb),List.length_cons,List.length_cons,this]
theorem Zlf (R : List (Nat × Nat)) (h : R.all (fun p=>Zae ops p.1 == p.2) = true) : (R.map (·.1)).map (Zae ops) = R.map (·.2):=by
 rw [List.map_map]
 apply List.map_congr_left
 intro p hp;rw [List.all_eq_true] at h
 simpa using h p hp
end
section
variable {P : Program} {ops : Array Oper} {Q : Exit -> Act -> World -> Prop} {md : Region.Mode} {L : List Nat} {S : World -> Prop}
theorem Zf4 {i : Nat} {oi : Oper} {v : Value} (hi : ops[i]? = some oi) (hsel : ∀ (j : Nat) (o : Oper) cs b,ops[j]? = some o -> o.op ≠ .select cs b)
    (hQ : ∀ c a w,Q (.panic c) (a.put oi.dst v) w -> Q (.panic c) a w) (hiL : L.contains i = false) :
    ∀ (fuel : Nat) (listed : Array Bool) (a : Act) (w : World),
     (∀ j oj,ops[j]? = some oj -> j ≠ i -> listed.getD j true = false -> (∀ e ∈ oj.after,Region.binds md e = true -> e.on ≠ i) -> oi.apart ops oj = true) ->
     i ∈ Region.ready md ops listed -> YieldsIf P ops (fun _=>True) oi v a -> (Zb1 L listed = true -> S w) ->
     Z0 P md ops Q L S fuel (listed.setIfInBounds i true) (a.put oi.dst v) w -> Z0 P md ops Q L S (fuel + 1) listed a w:=by
 have hiL' : i ∉ L:=fun h=>by
  rw [List.contains_iff_mem.2 h] at hiL
  cases hiL
 intro fuel
 induction fuel with
 | zero =>
  intro listed a w _ hr hy hS H;refine ⟨fun h=>(by rw [h] at hr;cases hr),fun j hj=>?_⟩
  by_cases hji : j = i
  ·subst hji;exact hy.wpOp hi trivial ⟨fun h=>hS (by rwa [Zbl hiL'] at h),H⟩
  ·have:=ready_mono hj hji
   rw [H.1] at this
   cases this
 | succ fuel ih =>
  intro listed a w hfree hr hy hS H;refine ⟨fun h=>(by rw [h] at hr;cases hr),fun j hj=>?_⟩
  by_cases hji : j = i
  ·subst hji;exact hy.wpOp hi trivial ⟨fun h=>hS (by rwa [Zbl hiL'] at h),H⟩
  ·have h1:=H.2 j (ready_mono hj hji)
   obtain ⟨hjun,oj,hoj,hall⟩:=mem_ready.1 hj
   have hnot : ∀ e ∈ oj.after,Region.binds md e = true -> e.on ≠ i:=fun e he hb heq=>by
    have h1:=hall e he hb;have h0:=(mem_ready.1 hr).1;rw [heq] at h1
    rcases Nat.lt_or_ge i listed.size with h' | h'
    ·simp [h'] at h0 h1;rw [h0] at h1;cases h1
    ·simp [Array.getElem?_eq_none h'] at h1
   have h2:=wpOp_putIf hoj (hfree j oj hoj hji hjun hnot) (fun cs b=>hsel i oi cs b hi) (fun cs b=>hsel j oj cs b hoj) hQ hy h1
   have hfree' : ∀ k ok,ops[k]? = some ok -> k ≠ i -> (listed.setIfInBounds j true).getD k true = false ->
       (∀ e ∈ ok.after,Region.binds md e = true -> e.on ≠ i) -> oi.apart ops ok = true:=fun k ok hk hki hun hno=>by
    refine hfree k ok hk hki ?_ hno
    by_cases hjk : j = k
    ·subst hjk;exact hjun
    ·rw [Go.getD_set_ne true hjk] at hun;exact hun
   refine wpOp_mono (fun a' w' h3=>?_) h2
   have hSj : Zb1 L (listed.setIfInBounds j true) = true -> S w':=fun h=>h3.2.1 (by
    rw [Array.setIfInBounds_comm _ _ (Ne.symm hji),Zbl hiL'];exact h)
   refine ⟨hSj,ih (listed.setIfInBounds j true) a' w' hfree' (ready_mono hr (Ne.symm hji)) h3.1 hSj ?_⟩;rw [Array.setIfInBounds_comm _ _ hji];exact h3.2.2
theorem Zx {i : Nat} {oi : Oper} {v : Value} {fuel : Nat} {listed : Array Bool} {a : Act} {w : World} (hi : ops[i]? = some oi)
    (hs : Region.noSelect ops = true) (hf : Region.free md ops listed i = true) (hr : (Region.ready md ops listed).contains i = true) (hL : L.contains i = false)
    (hy : YieldsIf P ops (fun _=>True) oi v a) (hS : Zb1 L listed = true -> S w)
    (h : Z0 P md ops (OnlyNormal Q) L S fuel (listed.setIfInBounds i true) (a.put oi.dst v) w) : Z0 P md ops (OnlyNormal Q) L S (fuel + 1) listed a w:=
 Zf4 hi (Region.noSelect_spec hs) (fun _ _ _ h=>(h : False).elim) hL fuel listed a w (Region.free_spec hi hf) (by simpa using hr) hy hS h
end
section
variable {P : Program} {ops : Array Oper} {Q : Exit -> Act -> World -> Prop} {md : Region.Mode} {L : List Nat} {S : World -> Prop}
end
def Zj2 (md : Region.Mode) (ops : Array Oper) (L : List Nat) : List Nat -> Array Bool -> Bool
 | [],_=>true
 | i :: is,l=>Region.free md ops l i && (Region.ready md ops l).contains i && !L.contains i && Zj2 md ops L is (l.setIfInBounds i true)
section
variable {P : Program} {ops : Array Oper} {Q : Exit -> Act -> World -> Prop} {md : Region.Mode} {L : List Nat} {S : World -> Prop}
theorem Zjn (hs : Region.noSelect ops = true) {w : World} (hS : S w) : ∀ (is : List Nat) (F : Nat) (listed : Array Bool) (a : Act),Zj2 md ops L is listed = true -> Zej P ops (fun _=>True) is a (fun a'=>Z0 P md ops (OnlyNormal Q) L S F (Zfx is listed) a' w) -> Z0 P md ops (OnlyNormal Q) L S (F + is.length) listed a w
 | [],F,l,a,_,h=>h
 | i :: is,F,l,a,hc,h=>by
  obtain ⟨oi,v,ho,hy,h2⟩:=h;simp only [Zj2,Bool.and_eq_true,Bool.not_eq_true'] at hc;exact Zx ho hs hc.1.1.1 hc.1.1.2 hc.1.2 hy (fun _=>hS) (Zjn hs hS is F _ _ hc.2 h2)
theorem Zrc {F : Nat} {listed : Array Bool} {a : Act} {w : World} (k : Nat) (is : List Nat) (hk : is.length = k) (hc : (Region.noSelect ops && Zj2 md ops L is listed) = true) (hS : S w)
    (h : Zej P ops (fun _=>True) is a (fun a'=>Z0 P md ops (OnlyNormal Q) L S F (Zfx is listed) a' w)) : Z0 P md ops (OnlyNormal Q) L S (F + k) listed a w:=by
 rw [Bool.and_eq_true] at hc;subst hk;exact Zjn hc.1 hS is F listed a hc.2 h
end
def Zac (R : List Nat) (att : Nat -> List Nat) : List Nat:=R.flatMap fun i=>i :: att i
def Ze1 (md : Region.Mode) (ops : Array Oper) (l : Array Bool) (i : Nat) : List Nat -> List Nat -> Bool
 | [],_=>true
 | u :: us,done=>(match ops[u]? with | some o=>o.dst.isSome | none=>false) && (Z7 md ops u).contains i && !l.getD u true && (Z7 md ops u).all (fun p=>p == i || done.contains p || l.getD p false || (Z7 md ops i).contains p) &&
     ((List.range ops.size).all fun j=>j == u || (j == i || done.contains j || l.getD j false || (Z7 md ops i).contains j) || (Z7 md ops j).contains u || (match ops[u]?,ops[j]? with | some ou,some oj=>ou.apart ops oj | _,_=>true)) && Ze1 md ops l i us (u :: done)
def Znq (md : Region.Mode) (ops : Array Oper) (att : Nat -> List Nat) : List Nat -> Array Bool -> Bool
 | [],_=>true
 | r :: rs,l=>!l.getD r true && (match ops[r]? with | some o=>o.dst.isSome | none=>false) && (Z7 md ops r).all (fun p=>l.getD p false) && Znq md ops att rs (Zah (r :: att r) l)
def Zq1 (md : Region.Mode) (ops : Array Oper) (R F : List Nat) (l : Array Bool) : Bool:=
 (List.range ops.size).all fun k=>F.contains k || l.getD k true || (Z7 md ops k).any (fun p=>!F.contains p && !l.getD p false) || (R.all fun r=>(clo md ops F.reverse (Z7 md ops k)).contains r)
def Zhg (md : Region.Mode) (ops : Array Oper) (R : List Nat) (att : Nat -> List Nat) (l : Array Bool) : Bool:=
 Znq md ops att R l && Zq1 md ops R (Zac R att) l && Zaw ((Zac R att).map (Zae ops)) && decide (l.size = ops.size) && R.all (fun i=>Ze1 md ops l i (att i) []) && Region.noSelect ops
section
variable {P : Program} {ops : Array Oper} {Q : Exit -> Act -> World -> Prop} {md : Region.Mode} {L : List Nat} {S : World -> Prop}
def Zlz (P : Program) (ops : Array Oper) (Φ : Nat -> Value -> World -> Prop) (w : World) : List Nat -> Act -> Prop
 | [],_=>True
 | u :: us,a=>∃ o v,ops[u]? = some o /\ YieldsIf P ops (fun _=>True) o v a /\ Φ u v w /\ Zlz P ops Φ w us (a.put o.dst v)
theorem Zea {l : Array Bool} {i : Nat} (h : i < l.size) : (l.setIfInBounds i true).getD i false = true:=by
 rw [Array.getD_eq_getD_getElem?,Array.getElem?_setIfInBounds_self,if_pos h];rfl
theorem Za0 {us : List Nat} {l : Array Bool} {k : Nat} (h : l.getD k false = true) : (Zah us l).getD k false = true:=by
 induction us generalizing l with
 | nil=>exact h
 | cons u us ih=>exact ih (l:=l.setIfInBounds u true) (Z2 h)
theorem Zhd {us : List Nat} {l : Array Bool} {k : Nat} (hk : k ∈ us) (h : k < l.size) : (Zah us l).getD k false = true:=by
 induction us generalizing l with
 | nil=>cases hk
 | cons u us ih =>
  rcases List.mem_cons.1 hk with rfl | hk
  ·exact Za0 (us:=us) (Zea h)
  ·exact ih (l:=l.setIfInBounds u true) hk (by simp;exact h)
theorem Znj {Φ : Nat -> Value -> World -> Prop} {l0 : Array Bool} {i : Nat} {R : List Nat} {a0 : Act} {w : World} {F : Nat} (hns : Region.noSelect ops = true) (hnd : Zaw (R.map (Zae ops)) = true) (hiR : i ∈ R) :
    ∀ (us done : List Nat) (l : Array Bool) (ν : Nat -> Value),Ze1 md ops l0 i us done = true -> (∀ u ∈ us,u ∈ R) -> (∀ u ∈ us,u ∉ L) -> (∀ u ∈ us,l.getD u true = false) -> l.size = ops.size -> Zaw us = true ->
     (∀ p,l0.getD p false = true -> l.getD p false = true) -> l.getD i false = true -> (∀ p ∈ Z7 md ops i,l.getD p false = true) -> (∀ u ∈ done,l.getD u false = true) -> S w ->
     Zlz P ops Φ w us (Za2 (R.map (Zae ops)) a0 ν) ->
     (∀ ν',(∀ k,(∀ u ∈ us,Zae ops u ≠ k) -> ν' k = ν k) -> (∀ u ∈ us,Φ u (ν' (Zae ops u)) w) -> Z0 P md ops (OnlyNormal Q) L S F (Zah us l) (Za2 (R.map (Zae ops)) a0 ν') w) ->
     Z0 P md ops (OnlyNormal Q) L S (us.length + F) l (Za2 (R.map (Zae ops)) a0 ν) w:=by
 intro us
 induction us with
 | nil =>
  intro done l ν _ _ _ _ _ _ _ _ _ _ _ _ h;rw [show ([] : List Nat).length + F = F by simp];exact h ν (fun _ _=>rfl) (fun u hu=>by cases hu)
 | cons u us ih =>
  intro done l ν hat hR hL hun hsz hndu hl0 hi hp hdone hS htr h;simp only [Ze1,Bool.and_eq_true,List.all_eq_true] at hat;obtain ⟨⟨⟨⟨⟨h1,h2⟩,h3⟩,h4⟩,h5⟩,h6⟩:=hat;obtain ⟨o,v,ho,hy,hΦ,htr2⟩:=htr;obtain ⟨n1,n2⟩:=Zaq hndu;have husz : u < ops.size:=(Array.getElem?_eq_some_iff.1 ho).1;have hu0:=hun u (List.mem_cons_self ..)
  have hready : u ∈ Region.ready md ops l:=Zd8 hu0 ho (fun p hp2=>by
   have h7:=h4 p hp2;simp only [Bool.or_eq_true,beq_iff_eq] at h7
   rcases h7 with ((h7 | h7) | h7) | h7
   ·rw [h7];exact hi
   ·exact hdone p (List.contains_iff_mem.1 h7)
   ·exact hl0 p h7
   ·exact hp p (List.contains_iff_mem.1 h7))
  have hdst : o.dst = some (Zae ops u):=by
   rw [ho] at h1;obtain ⟨d,hd⟩:=Option.isSome_iff_exists.1 h1;unfold Zae;rw [ho];simp only [hd,Option.getD_some]
  have hdn : Zae ops u ∈ R.map (Zae ops):=List.mem_map.2 ⟨u,hR u (List.mem_cons_self ..),rfl⟩;rw [List.length_cons,Nat.add_right_comm]
  refine Zf4 ho (Region.noSelect_spec hns) (fun _ _ _ h=>(h : False).elim) (by
   cases hc : L.contains u with
   | false=>rfl
   | true=>exact absurd (List.contains_iff_mem.1 hc) (hL u (List.mem_cons_self ..))) _ l _ w (fun j oj hoj hju hjl hnw=>?_) hready hy (fun _=>hS) ?_
  ·have h7:=h5 j (List.mem_range.2 (Array.getElem?_eq_some_iff.1 hoj).1)
   simp only [Bool.or_eq_true,beq_iff_eq] at h7
   rcases h7 with ((h7 | h7) | h7) | h7
   ·exact absurd h7 hju
   ·exfalso
    have h8 : l.getD j false = true:=by
     rcases h7 with ((h7 | h7) | h7) | h7
     ·rw [h7];exact hi
     ·exact hdone j (List.contains_iff_mem.1 h7)
     ·exact hl0 j h7
     ·exact hp j (List.contains_iff_mem.1 h7)
    rw [Zcv h8] at hjl
    cases hjl
   ·exfalso
    have h8:=List.contains_iff_mem.1 h7;unfold Z7 at h8;rw [hoj] at h8;obtain ⟨e,he,he2⟩:=List.mem_map.1 h8;rw [List.mem_filter] at he;exact hnw e (by simpa using he.1) he.2 he2
   ·rw [ho,hoj] at h7;exact h7
  ·rw [hdst,Zgg hdn hnd]
   refine ih (u :: done) (l.setIfInBounds u true) (upd ν (Zae ops u) v) h6 (fun x hx=>hR x (List.mem_cons_of_mem _ hx)) (fun x hx=>hL x (List.mem_cons_of_mem _ hx)) (fun x hx=>?_) (by simp;exact hsz) n2 (fun p hp2=>Z2 (hl0 p hp2)) (Z2 hi) (fun p hp2=>Z2 (hp p hp2)) (fun x hx=>?_) hS ?_ (fun ν' k1 k2=>?_)
   ·rw [Go.getD_set_ne true (fun e : u = x=>n1 (e ▸ hx))]
    exact hun x (List.mem_cons_of_mem _ hx)
   ·rcases List.mem_cons.1 hx with rfl | hx
    ·exact Zea (by omega)
    ·exact Z2 (hdone x hx)
   ·rw [hdst,Zgg hdn hnd] at htr2
    exact htr2
   ·refine h ν' (fun k hk=>?_) (fun x hx=>?_)
    ·rw [k1 k (fun x hx=>hk x (List.mem_cons_of_mem _ hx))]
     simp only [upd,if_neg (Ne.symm (hk u (List.mem_cons_self ..)))]
    ·rcases List.mem_cons.1 hx with rfl | hx
     ·have h9 : ∀ y ∈ us,Zae ops y ≠ Zae ops x:=fun y hy=>Zdl hnd (hR y (List.mem_cons_of_mem _ hy)) (hR x (List.mem_cons_self ..)) (fun e=>n1 (e ▸ hy))
      rw [k1 _ h9];simp only [upd,if_true];exact hΦ
     ·exact k2 x hx
theorem Zhq {us : List Nat} {l : Array Bool} {k : Nat} (h : (Zah us l).getD k false = true) : k ∈ us \/ l.getD k false = true:=by
 induction us generalizing l with
 | nil=>exact .inr h
 | cons u us ih =>
  rcases ih (l:=l.setIfInBounds u true) h with h1 | h1
  ·exact .inl (List.mem_cons_of_mem _ h1)
  ·by_cases hk : u = k
   ·exact .inl (hk ▸ List.mem_cons_self ..)
   ·rw [Go.getD_set_ne false hk] at h1;exact .inr h1
theorem Zd6 {us : List Nat} {l : Array Bool} {k : Nat} (h : (Zah us l).getD k true = false) : l.getD k true = false:=by
 rw [Za6] at h
 split at h
 ·cases h
 ·exact h
theorem Zfc {att : Nat -> List Nat} : ∀ (R : List Nat) (l0 : Array Bool),Znq md ops att R l0 = true -> (∀ r ∈ R,l0.getD r true = false /\ ∃ o d,ops[r]? = some o /\ o.dst = some d) /\
      ∀ l : Array Bool,l.size = l0.size -> (∀ k,l0.getD k false = true -> l.getD k false = true) -> (∀ r ∈ R,l.getD r true = true -> ∀ u ∈ att r,l.getD u false = true) -> (∃ r ∈ R,l.getD r true = false) -> ∃ r ∈ R,l.getD r true = false /\ ∀ p ∈ Z7 md ops r,l.getD p false = true
 | [],_,_=>⟨fun r hr=>(by cases hr),fun l _ _ _ ⟨r,hr,_⟩=>(by cases hr)⟩
 | r :: R,l0,h=>by
  simp only [Znq,Bool.and_eq_true,Bool.not_eq_true',List.all_eq_true] at h;obtain ⟨⟨⟨h1,h2⟩,h3⟩,h4⟩:=h;obtain ⟨k1,k2⟩:=Zfc R _ h4;refine ⟨fun x hx=>?_,fun l hsz hl hat hu=>?_⟩
  ·rcases List.mem_cons.1 hx with rfl | hx
   ·refine ⟨h1,?_⟩
    cases ho : ops[x]? with
    | none=>rw [ho] at h2;cases h2
    | some o =>
     rw [ho] at h2;obtain ⟨d,hd⟩:=Option.isSome_iff_exists.1 h2;exact ⟨o,d,rfl,hd⟩
   ·obtain ⟨m1,m2⟩:=k1 x hx
    exact ⟨Zd6 m1,m2⟩
  ·by_cases hr : l.getD r true = false
   ·exact ⟨r,List.mem_cons_self ..,hr,fun p hp=>hl p (h3 p hp)⟩
   ·have hr2 : l.getD r true = true:=by simpa using hr
    have hrs : r < l0.size:=by
     rcases Nat.lt_or_ge r l0.size with h' | h'
     ·exact h'
     ·rw [Array.getD_eq_getD_getElem?,Array.getElem?_eq_none h'] at h1;cases h1
    have hrl : r < l.size:=by omega
    have hrf : l.getD r false = true:=by
     rw [Array.getD_eq_getD_getElem?,Array.getElem?_eq_getElem hrl] at hr2 ⊢;exact hr2
    obtain ⟨x,hx,hx2⟩:=k2 l (by rw [Zdq];exact hsz) (fun k hk=>by
     rcases Zhq hk with h5 | h5
     ·rcases List.mem_cons.1 h5 with rfl | h5
      ·exact hrf
      ·exact hat r (List.mem_cons_self ..) hr2 k h5
     ·exact hl k h5) (fun y hy=>hat y (List.mem_cons_of_mem _ hy)) (by
     obtain ⟨y,hy,hy2⟩:=hu
     rcases List.mem_cons.1 hy with rfl | hy
     ·exact absurd hy2 hr
     ·exact ⟨y,hy,hy2⟩)
    exact ⟨x,List.mem_cons_of_mem _ hx,hx2⟩
theorem Zj4 {R : List Nat} (hn : Zaw R = true) : ∀ (us : List Nat) (l : Array Bool),Zaw us = true -> (∀ u ∈ us,u ∈ R) -> (∀ u ∈ us,l.getD u true = false) -> left R (Zah us l) + us.length = left R l:=by
 intro us
 induction us with
 | nil=>intro l _ _ _;rfl
 | cons u us ih =>
  intro l h1 h2 h3;obtain ⟨n1,n2⟩:=Zaq h1;have h4:=Zhp hn (h2 u (List.mem_cons_self ..)) (h3 u (List.mem_cons_self ..))
  have h5:=ih (l.setIfInBounds u true) n2 (fun x hx=>h2 x (List.mem_cons_of_mem _ hx)) (fun x hx=>by
   rw [Go.getD_set_ne true (fun e : u = x=>n1 (e ▸ hx))]
   exact h3 x (List.mem_cons_of_mem _ hx))
  show left R (Zah us (l.setIfInBounds u true)) + (us.length + 1) = _;omega
theorem Zcs : ∀ {a b : List Nat},Zaw (a ++ b) = true -> Zaw b = true
 | [],_,h=>h
 | _ :: a,_,h=>Zcs (a:=a) (Zaq h).2
theorem Zc2 : ∀ {a b : List Nat},Zaw (a ++ b) = true -> Zaw a = true
 | [],_,_=>rfl
 | x :: a,b,h=>by
  obtain ⟨h1,h2⟩:=Zaq (x:=x) (l:=a ++ b) h;simp only [Zaw,Bool.and_eq_true,Bool.not_eq_true'];refine ⟨?_,Zc2 h2⟩
  cases hc : a.contains x with
  | false=>rfl
  | true=>exact absurd (List.mem_append_left _ (List.contains_iff_mem.1 hc)) h1
theorem Zgn : ∀ {a b : List Nat},Zaw (a ++ b) = true -> ∀ x,x ∈ a -> x ∉ b
 | [],_,_,x,hx=>by cases hx
 | y :: a,b,h,x,hx=>by
  obtain ⟨h1,h2⟩:=Zaq (x:=y) (l:=a ++ b) h
  rcases List.mem_cons.1 hx with hx' | hx'
  ·intro hb;exact h1 (List.mem_append_right _ (hx' ▸ hb))
  ·exact Zgn h2 x hx'
theorem Zle {att : Nat -> List Nat} : ∀ {R : List Nat},Zaw (Zac R att) = true -> ∀ r ∈ R,Zaw (r :: att r) = true /\ ∀ r' ∈ R,r' ≠ r -> ∀ x ∈ r :: att r,x ∉ r' :: att r'
 | [],_,r,hr=>by cases hr
 | y :: R,h,r,hr=>by
  have e : Zac (y :: R) att = (y :: att y) ++ Zac R att:=rfl;rw [e] at h;have h1:=Zc2 h;have h2:=Zcs h;have h3:=Zgn h
  have hmem : ∀ z ∈ R,∀ x ∈ z :: att z,x ∈ Zac R att:=fun z hz x hx=>List.mem_flatMap.2 ⟨z,hz,hx⟩
  by_cases hry : r = y
  ·subst hry
   refine ⟨h1,fun r' hr' hne x hx hx2=>?_⟩
   rcases List.mem_cons.1 hr' with h4 | h4
   ·exact hne h4
   ·exact h3 x hx (hmem r' h4 x hx2)
  ·have hrR : r ∈ R:=by
     rcases List.mem_cons.1 hr with h4 | h4
     ·exact absurd h4 hry
     ·exact h4
   obtain ⟨k1,k2⟩:=Zle h2 r hrR;refine ⟨k1,fun r' hr' hne x hx hx2=>?_⟩
   by_cases hr'y : r' = y
   ·subst hr'y
    exact h3 x hx2 (hmem r hrR x hx)
   ·rcases List.mem_cons.1 hr' with h4 | h4
    ·exact hr'y h4
    ·exact k2 r' h4 hne x hx hx2
theorem Zpu (R : List Nat) (att : Nat -> List Nat) (D : List Nat) (hDR : ∀ i ∈ D,i ∈ R) (Φ : Nat -> Value -> World -> Prop) {l0 : Array Bool} {a0 : Act} {w0 : World} (hok : Zhg md ops R att l0 = true) (hL : ∀ u ∈ Zac R att,u ∉ L)
    (hst : ∀ i ∈ Zac R att,∀ v w w',Below w.heap.size w w' -> Φ i v w -> Φ i v w') (hS : ∀ w',Below w0.heap.size w0 w' -> S w') {F : Nat}
    (hop : ∀ i ∈ R,∀ (ν : Nat -> Value) (w : World),Below w0.heap.size w0 w -> (∀ j ∈ Zac R att,j ∈ Z7 md ops i -> Φ j (ν (Zae ops j)) w) ->
     wpOp P ops (OnlyNormal Q) i (fun a' w'=>∃ v,a' = (Za2 ((Zac R att).map (Zae ops)) a0 ν).put (some (Zae ops i)) v /\ Φ i v w' /\ Below w.heap.size w w' /\ Zlz P ops Φ w' (att i) a' /\ (i ∈ D -> ∀ j ∈ D,∀ u,Φ j u w -> v ≠ u)) (Za2 ((Zac R att).map (Zae ops)) a0 ν) w)
    (hfin : ∀ (ν : Nat -> Value) (w : World),Below w0.heap.size w0 w -> (∀ i ∈ Zac R att,Φ i (ν (Zae ops i)) w) -> (∀ i ∈ D,∀ j ∈ D,i ≠ j -> ν (Zae ops i) ≠ ν (Zae ops j)) -> Z0 P md ops (OnlyNormal Q) L S F (Zah (Zac R att) l0) (Za2 ((Zac R att).map (Zae ops)) a0 ν) w) :
    ∀ (n : Nat) (l : Array Bool) (ν : Nat -> Value) (w : World),n = left (Zac R att) l -> l.size = l0.size -> (∀ k,k ∉ Zac R att -> l.getD k true = l0.getD k true) -> (∀ k,l0.getD k false = true -> l.getD k false = true) ->
     (∀ r ∈ Zac R att,l.getD r false = true -> ∀ p ∈ Z7 md ops r,l.getD p false = true) ->
     (∀ r ∈ R,∀ u ∈ att r,(l.getD r true = true -> l.getD u false = true) /\ (l.getD r true = false -> l.getD u true = false)) -> Below w0.heap.size w0 w -> (∀ r ∈ Zac R att,l.getD r true = true -> Φ r (ν (Zae ops r)) w) -> (∀ i ∈ D,∀ j ∈ D,i ≠ j -> l.getD i true = true -> l.getD j true = true -> ν (Zae ops i) ≠ ν (Zae ops j)) ->
     Z0 P md ops (OnlyNormal Q) L S (n + F) l (Za2 ((Zac R att).map (Zae ops)) a0 ν) w:=by
 simp only [Zhg,Bool.and_eq_true,decide_eq_true_eq] at hok;obtain ⟨⟨⟨⟨⟨hto,hou⟩,hnd⟩,hsz0⟩,hato⟩,hns⟩:=hok;rw [List.all_eq_true] at hato;obtain ⟨t1,t2⟩:=Zfc R l0 hto;have hndf:=Zhx hnd
 have hmemR : ∀ r ∈ R,r ∈ Zac R att:=fun r hr=>List.mem_flatMap.2 ⟨r,hr,List.mem_cons_self ..⟩
 have hmemU : ∀ r ∈ R,∀ u ∈ att r,u ∈ Zac R att:=fun r hr u hu=>List.mem_flatMap.2 ⟨r,hr,List.mem_cons_of_mem _ hu⟩
 have hattp : ∀ r ∈ R,∀ u ∈ att r,r ∈ Z7 md ops u /\ (∃ o,ops[u]? = some o):=fun r hr=>by
  have : ∀ (us done : List Nat),Ze1 md ops l0 r us done = true -> ∀ u ∈ us,r ∈ Z7 md ops u /\ (∃ o,ops[u]? = some o):=by
   intro us
   induction us with
   | nil=>intro _ _ u hu;cases hu
   | cons x us ih =>
    intro done h u hu;simp only [Ze1,Bool.and_eq_true] at h
    rcases List.mem_cons.1 hu with rfl | hu
    ·refine ⟨List.contains_iff_mem.1 h.1.1.1.1.2,?_⟩
     cases ho : ops[u]? with
     | none=>have:=h.1.1.1.1.1;rw [ho] at this;cases this
     | some o=>exact ⟨o,rfl⟩
    ·exact ih _ h.2 u hu
  exact this (att r) [] (hato r hr)
 intro n
 induction n using Nat.strongRecOn with
 | _ n ih =>
  intro l ν w hn hsz hK hM hD hA hb hΦ hNE
  have hsize : ∀ r ∈ Zac R att,r < l.size:=fun x hx=>by
   obtain ⟨r,hr,hx2⟩:=List.mem_flatMap.1 hx
   rcases List.mem_cons.1 hx2 with rfl | hx2
   ·obtain ⟨-,o,d,ho,-⟩:=t1 x hr
    have:=(Array.getElem?_eq_some_iff.1 ho).1;omega
   ·obtain ⟨-,o,ho⟩:=hattp r hr x hx2
    have:=(Array.getElem?_eq_some_iff.1 ho).1;omega
  have htf : ∀ k,k < l.size -> l.getD k true = true -> l.getD k false = true:=fun k hk h=>by
   rw [Array.getD_eq_getD_getElem?,Array.getElem?_eq_getElem hk] at h ⊢;exact h
  by_cases hex : ∃ r ∈ R,l.getD r true = false
  ·obtain ⟨r,hr,hr1,hr2⟩:=t2 l hsz hM (fun r hr h u hu=>(hA r hr u hu).1 h) hex
   obtain ⟨-,o,d,ho,-⟩:=t1 r hr;have hready:=Zd8 (md:=md) hr1 ho hr2
   obtain ⟨m,rfl⟩ : ∃ m,n = m + 1:=by
    have:=Zhp hndf (hmemR r hr) hr1;exact ⟨left (Zac R att) (l.setIfInBounds r true),by omega⟩
   rw [Nat.add_right_comm];refine ⟨fun h0=>(by rw [h0] at hready;cases hready),fun i hi=>?_⟩;obtain ⟨hi1,hi2,hi3⟩:=Zhv hi
   have hiF : i ∈ Zac R att:=by
    apply Classical.byContradiction
    intro hni;unfold Zq1 at hou;rw [List.all_eq_true] at hou;have h1:=hou i (List.mem_range.2 hi2);simp only [Bool.or_eq_true,List.any_eq_true,List.all_eq_true,Bool.and_eq_true,Bool.not_eq_true'] at h1
    rcases h1 with ((h1 | h1) | ⟨p,hp,h2,h3⟩) | h1
    ·exact hni (List.contains_iff_mem.1 h1)
    ·rw [hK i hni,h1] at hi1;cases hi1
    ·have hpR : p ∉ Zac R att:=fun h=>by rw [List.contains_iff_mem.2 h] at h2;cases h2
     have h4:=hi3 p hp;have h5:=Zcv h4;rw [hK p hpR] at h5
     have hps : p < l.size:=by
      rcases Nat.lt_or_ge p l.size with h' | h'
      ·exact h'
      ·rw [Array.getD_eq_getD_getElem?,Array.getElem?_eq_none h'] at h4;cases h4
     rw [Array.getD_eq_getD_getElem?,Array.getElem?_eq_getElem (by omega)] at h5 h3;simp only [Option.getD_some] at h5 h3;rw [h5] at h3;cases h3
    ·have h2:=Zlx (md:=md) (ops:=ops) (l:=l) (R:=Zac R att) hD (Zac R att).reverse (Z7 md ops i) (fun r hr=>List.mem_reverse.1 hr) hi3
     have h3:=Zcv (h2 r (List.contains_iff_mem.1 (h1 r hr)));rw [hr1] at h3;cases h3
   have hiR : i ∈ R:=by
    obtain ⟨r',hr',hx⟩:=List.mem_flatMap.1 hiF
    rcases List.mem_cons.1 hx with rfl | hx
    ·exact hr'
    ·exfalso
     have h1:=Zcv (hi3 r' (hattp r' hr' i hx).1);have h2:=Zcv ((hA r' hr' i hx).1 h1);rw [hi1] at h2;cases h2
   have hdn : Zae ops i ∈ (Zac R att).map (Zae ops):=List.mem_map.2 ⟨i,hiF,rfl⟩;obtain ⟨own1,own2⟩:=Zle hndf i hiR;obtain ⟨ni,nus⟩:=Zaq own1;refine wpOp_mono (fun a' w' h=>?_) (hop i hiR ν w hb fun j hj hp=>hΦ j hj (Zcv (hi3 j hp)));obtain ⟨v,rfl,hv,hb2,htr,hne⟩:=h;have hb3:=hb.trans (hb2.mono hb.size);refine ⟨fun _=>hS _ hb3,?_⟩;rw [Zgg hdn hnd] at htr ⊢;have hset : (l.setIfInBounds i true).getD i false = true:=Zea (hsize i hiF)
   have hund : ∀ u ∈ att i,(l.setIfInBounds i true).getD u true = false:=fun u hu=>by
    rw [Go.getD_set_ne true (fun e : i = u=>ni (e ▸ hu))];exact (hA i hiR u hu).2 hi1
   have hlt:=Zhp hndf hiF hi1;have hlm:=Zj4 hndf (att i) (l.setIfInBounds i true) nus (hmemU i hiR) hund
   have hm : m = (att i).length + left (Zac R att) (Zah (att i) (l.setIfInBounds i true)):=by omega
   rw [hm,Nat.add_assoc];refine Znj (R:=Zac R att) hns hnd hiF (att i) [] (l.setIfInBounds i true) _ (hato i hiR) (hmemU i hiR) (fun u hu=>hL u (hmemU i hiR u hu)) hund (by simp;omega) nus (fun p hp=>Z2 (hM p hp)) hset (fun p hp=>Z2 (hi3 p hp)) (fun u hu=>by cases hu) (hS _ hb3) htr (fun ν' k1 k2=>?_)
   have hνi : ν' (Zae ops i) = v:=by
    rw [k1 _ (fun u hu=>Zdl hnd (hmemU i hiR u hu) hiF (fun e=>ni (e ▸ hu)))];simp only [upd,if_true]
   have hνo : ∀ x ∈ Zac R att,x ≠ i -> x ∉ att i -> ν' (Zae ops x) = ν (Zae ops x):=fun x hx h1 h2=>by
    rw [k1 _ (fun u hu=>Zdl hnd (hmemU i hiR u hu) hx (fun e=>h2 (e ▸ hu)))];simp only [upd,if_neg (Zdl hnd hx hiF h1)]
   refine ih _ (by omega) (Zah (att i) (l.setIfInBounds i true)) ν' w' rfl (by rw [Zdq];simp;exact hsz) (fun k hk=>?_) (fun k hk=>Za0 (Z2 (hM k hk))) (fun x hx hxt p hp=>?_) (fun r' hr' u hu=>?_) hb3 (fun x hx hxt=>?_) (fun a ha b hb' hab hat hbt=>?_)
   ·rw [Za6,if_neg (fun h=>hk (hmemU i hiR k h)),Go.getD_set_ne true (fun e : i = k=>hk (e ▸ hiF))]
    exact hK k hk
   ·rcases Zhq hxt with h1 | h1
    ·-- an operation of the train
     have h2 : ∀ (us done : List Nat),Ze1 md ops l0 i us done = true -> (∀ u ∈ done,(Zah (att i) (l.setIfInBounds i true)).getD u false = true) -> (∀ u ∈ us,u ∈ att i) -> ∀ u ∈ us,∀ p ∈ Z7 md ops u,(Zah (att i) (l.setIfInBounds i true)).getD p false = true:=by
      intro us
      induction us with
      | nil=>intro _ _ _ _ u hu;cases hu
      | cons y us ihu =>
       intro done h hd hall u hu p hp;simp only [Ze1,Bool.and_eq_true,List.all_eq_true] at h
       rcases List.mem_cons.1 hu with rfl | hu
       ·have h7:=h.1.1.2 p hp
        simp only [Bool.or_eq_true,beq_iff_eq] at h7
        rcases h7 with ((h7 | h7) | h7) | h7
        ·rw [h7];exact Za0 hset
        ·exact hd p (List.contains_iff_mem.1 h7)
        ·exact Za0 (Z2 (hM p h7))
        ·exact Za0 (Z2 (hi3 p (List.contains_iff_mem.1 h7)))
       ·refine ihu (y :: done) h.2 (fun z hz=>?_) (fun z hz=>hall z (List.mem_cons_of_mem _ hz)) u hu p hp
        rcases List.mem_cons.1 hz with rfl | hz
        ·exact Zhd (hall z (List.mem_cons_self ..)) (by simp;exact hsize z (hmemU i hiR z (hall z (List.mem_cons_self ..))))
        ·exact hd z hz
     exact h2 (att i) [] (hato i hiR) (fun u hu=>by cases hu) (fun u hu=>hu) x h1 p hp
    ·by_cases hxi : i = x
     ·subst hxi;exact Za0 (Z2 (hi3 p hp))
     ·rw [Go.getD_set_ne false hxi] at h1
      exact Za0 (Z2 (hD x hx h1 p hp))
   ·by_cases hri : r' = i
    ·subst hri
     refine ⟨fun _=>Zhd hu (by simp;exact hsize u (hmemU r' hr' u hu)),fun h=>?_⟩;have h1:=Zd6 h;rw [Zcv hset] at h1;cases h1
    ·have hd1:=own2 r' hr' hri
     have hu1 : u ∉ att i:=fun h=>hd1 u (List.mem_cons_of_mem _ h) (List.mem_cons_of_mem _ hu)
     have hu2 : i ≠ u:=fun h=>hd1 i (List.mem_cons_self ..) (h ▸ List.mem_cons_of_mem _ hu)
     have hr1' : r' ∉ att i:=fun h=>hd1 r' (List.mem_cons_of_mem _ h) (List.mem_cons_self ..)
     refine ⟨fun h=>?_,fun h=>?_⟩
     ·rw [Za6,if_neg hr1',Go.getD_set_ne true (Ne.symm hri)] at h
      exact Za0 (Z2 ((hA r' hr' u hu).1 h))
     ·rw [Za6,if_neg hr1',Go.getD_set_ne true (Ne.symm hri)] at h
      rw [Za6,if_neg hu1,Go.getD_set_ne true hu2];exact (hA r' hr' u hu).2 h
   ·by_cases hxi : x = i
    ·subst hxi;rw [hνi];exact hv
    ·by_cases hxa : x ∈ att i
     ·exact k2 x hxa
     ·rw [hνo x hx hxi hxa]
      rw [Za6,if_neg hxa,Go.getD_set_ne true (Ne.symm hxi)] at hxt;exact hst x hx _ _ _ hb2 (hΦ x hx hxt)
   ·have hDa : ∀ x ∈ D,x ∉ att i:=fun x hx h=>by
      by_cases hxi : x = i
      ·exact ni (hxi ▸ h)
      ·exact own2 x (hDR x hx) hxi x (List.mem_cons_of_mem _ h) (List.mem_cons_self ..)
    have hold : ∀ x ∈ D,x ≠ i -> (Zah (att i) (l.setIfInBounds i true)).getD x true = true -> ν' (Zae ops x) = ν (Zae ops x) /\ l.getD x true = true:=fun x hx hxi h=>by
     rw [Za6,if_neg (hDa x hx),Go.getD_set_ne true (Ne.symm hxi)] at h;exact ⟨hνo x (hmemR x (hDR x hx)) hxi (hDa x hx),h⟩
    by_cases hai : a = i
    ·have hbi : b ≠ i:=fun h=>hab (hai.trans h.symm)
     obtain ⟨e1,e2⟩:=hold b hb' hbi hbt;rw [hai,hνi,e1];exact hne (hai ▸ ha) b hb' _ (hΦ b (hmemR b (hDR b hb')) e2)
    ·obtain ⟨e1,e2⟩:=hold a ha hai hat
     by_cases hbi : b = i
     ·rw [hbi,hνi,e1]
      exact fun h=>hne (hbi ▸ hb') a ha _ (hΦ a (hmemR a (hDR a ha)) e2) h.symm
     ·obtain ⟨e3,e4⟩:=hold b hb' hbi hbt
      rw [e1,e3];exact hNE a ha b hb' hab e2 e4
  ·have hall : ∀ x ∈ Zac R att,l.getD x true = true:=fun x hx=>by
     obtain ⟨r,hr,hx2⟩:=List.mem_flatMap.1 hx
     have h1 : l.getD r true = true:=by
      cases h : l.getD r true with
      | true=>rfl
      | false=>exact absurd ⟨r,hr,h⟩ hex
     rcases List.mem_cons.1 hx2 with rfl | hx2
     ·exact h1
     ·exact Zcv ((hA r hr x hx2).1 h1)
   have h0 : left (Zac R att) l = 0:=by
    unfold left;rw [List.length_eq_zero_iff,List.filter_eq_nil_iff];intro r hr;rw [hall r hr];simp
   have : l = Zah (Zac R att) l0:=by
    refine Zmt (by rw [Zdq];exact hsz) fun k=>?_
    rw [Za6]
    by_cases hk : k ∈ Zac R att
    ·rw [if_pos hk];exact hall k hk
    ·rw [if_neg hk];exact hK k hk
   subst this;rw [hn,h0,Nat.zero_add];exact hfin ν w hb (fun i hi=>hΦ i hi (hall i hi)) (fun i hi j hj hij=>hNE i hi j hj hij (hall i (hmemR i (hDR i hi))) (hall j (hmemR j (hDR j hj))))
theorem Zkp (DP : List (Nat × Nat)) (RP : List (Nat × Nat)) (att : Nat -> List Nat) (FP : List (Nat × Nat)) (Φ : Nat -> Value -> World -> Prop) (F : Nat) {l0 : Array Bool} {a0 : Act} {w0 : World}
    (hok : (Zhg md ops (RP.map (·.1)) att l0 && (Zac (RP.map (·.1)) att == FP.map (·.1)) && FP.all (fun p=>Zae ops p.1 == p.2) && RP.all (fun p=>Zae ops p.1 == p.2) && FP.all (fun p=>!L.contains p.1) && DP.all (fun p=>RP.contains p)) = true)
    (hst : ∀ p ∈ FP,∀ v w w',Below w.heap.size w w' -> Φ p.1 v w -> Φ p.1 v w') (hS : ∀ w',Below w0.heap.size w0 w' -> S w')
    (hop : ∀ p ∈ RP,∀ (ν : Nat -> Value) (w : World),Below w0.heap.size w0 w -> (∀ q ∈ FP,(Z7 md ops p.1).contains q.1 = true -> Φ q.1 (ν q.2) w) ->
     wpOp P ops (OnlyNormal Q) p.1 (fun a' w'=>∃ v,a' = (Za2 (FP.map (·.2)) a0 ν).put (some p.2) v /\ Φ p.1 v w' /\ Below w.heap.size w w' /\ Zlz P ops Φ w' (att p.1) a' /\ (p ∈ DP -> ∀ q ∈ DP,∀ u,Φ q.1 u w -> v ≠ u)) (Za2 (FP.map (·.2)) a0 ν) w)
    (hfin : ∀ (ν : Nat -> Value) (w : World),Below w0.heap.size w0 w -> (∀ p ∈ FP,Φ p.1 (ν p.2) w) -> (∀ p ∈ DP,∀ q ∈ DP,p ≠ q -> ν p.2 ≠ ν q.2) -> Z0 P md ops (OnlyNormal Q) L S F (Zah (FP.map (·.1)) l0) (Za2 (FP.map (·.2)) a0 ν) w) :
    Z0 P md ops (OnlyNormal Q) L S (FP.length + F) l0 a0 w0:=by
 simp only [Bool.and_eq_true,beq_iff_eq] at hok;obtain ⟨⟨⟨⟨⟨h1,h2⟩,h3⟩,h4⟩,h5⟩,h6⟩:=hok;rw [List.all_eq_true] at h6;have hD:=Zlf (ops:=ops) FP h3;rw [<- h2] at hD;rw [List.all_eq_true] at h3 h4 h5
 have hmem : ∀ i,i ∈ Zac (RP.map (·.1)) att -> ∃ p ∈ FP,p.1 = i:=fun i hi=>by
  rw [h2] at hi;exact List.mem_map.1 hi
 have hall:=h1;simp only [Zhg,Bool.and_eq_true,decide_eq_true_eq] at h1;obtain ⟨⟨⟨⟨⟨hto,-⟩,hnd⟩,hsz0⟩,hato⟩,-⟩:=h1;obtain ⟨t1,-⟩:=Zfc _ l0 hto
 have hund : ∀ i ∈ Zac (RP.map (·.1)) att,l0.getD i true = false:=fun x hx=>by
  obtain ⟨r,hr,hx2⟩:=List.mem_flatMap.1 hx
  rcases List.mem_cons.1 hx2 with rfl | hx2
  ·exact (t1 x hr).1
  ·rw [List.all_eq_true] at hato
   have : ∀ (us done : List Nat),Ze1 md ops l0 r us done = true -> ∀ u ∈ us,l0.getD u true = false:=by
    intro us
    induction us with
    | nil=>intro _ _ u hu;cases hu
    | cons y us ih =>
     intro done h u hu;simp only [Ze1,Bool.and_eq_true,Bool.not_eq_true'] at h
     rcases List.mem_cons.1 hu with rfl | hu
     ·exact h.1.1.1.2
     ·exact ih _ h.2 u hu
   exact this _ _ (hato r hr) x hx2
 have hlen : left (Zac (RP.map (·.1)) att) l0 = FP.length:=by
  unfold left;rw [List.filter_eq_self.2 (fun r hr=>by rw [hund r hr];rfl),h2,List.length_map]
 have h:=Zpu (P:=P) (ops:=ops) (Q:=Q) (md:=md) (L:=L) (S:=S) (RP.map (·.1)) att (DP.map (·.1)) (fun i hi=>by
  obtain ⟨p,hp,rfl⟩:=List.mem_map.1 hi
  exact List.mem_map.2 ⟨p,List.contains_iff_mem.1 (h6 p hp),rfl⟩) Φ (F:=F) (a0:=a0) (w0:=w0) hall (fun u hu=>by
  obtain ⟨p,hp,rfl⟩:=hmem u hu;have:=h5 p hp;intro hc;rw [List.contains_iff_mem.2 hc] at this
  cases this) (fun i hi=>by
  obtain ⟨p,hp,rfl⟩:=hmem i hi
  exact hst p hp) hS (fun i hi ν w hb hP=>by
  obtain ⟨p,hp,rfl⟩:=List.mem_map.1 hi
  have:=hop p hp ν w hb (fun q hq hc=>by
   have hq2:=hP q.1 (by rw [h2];exact List.mem_map.2 ⟨q,hq,rfl⟩) (List.contains_iff_mem.1 hc);have e:=h3 q hq;simp only [beq_iff_eq] at e;rw [e] at hq2
   exact hq2)
  have e:=h4 p hp;simp only [beq_iff_eq] at e;rw [hD,e];refine wpOp_mono (fun a' w' h=>?_) this;obtain ⟨v,k1,k2,k3,k4,k5⟩:=h;refine ⟨v,k1,k2,k3,k4,fun hi j hj u hu=>?_⟩;obtain ⟨p',hp',hpe⟩:=List.mem_map.1 hi;obtain ⟨q',hq',rfl⟩:=List.mem_map.1 hj;have e1:=h4 p' (List.contains_iff_mem.1 (h6 p' hp'));simp only [beq_iff_eq] at e1;have : p' = p:=Prod.ext hpe (by rw [<- e1,<- e,hpe])
  exact k5 (this ▸ hp') q' hq' u hu) (fun ν w hb hf hne=>by
  rw [hD,h2]
  exact hfin ν w hb (fun p hp=>by
   have hq2:=hf p.1 (by rw [h2];exact List.mem_map.2 ⟨p,hp,rfl⟩);have e:=h3 p hp;simp only [beq_iff_eq] at e;rw [e] at hq2
   exact hq2) (fun p hp q hq hpq=>by
   have e1:=h4 p (List.contains_iff_mem.1 (h6 p hp));have e2:=h4 q (List.contains_iff_mem.1 (h6 q hq));simp only [beq_iff_eq] at e1 e2;have:=hne p.1 (List.mem_map.2 ⟨p,hp,rfl⟩) q.1 (List.mem_map.2 ⟨q,hq,rfl⟩) (fun h=>hpq (Prod.ext h (by rw [<- e1,<- e2,h])));rw [e1,e2] at this
   exact this)) FP.length l0 (fun d=>a0.tmps.getD d undef) w0 hlen.symm rfl (fun _ _=>rfl) (fun _ h=>h)
  (fun r hr h=>by have h1:=Zcv h;rw [hund r hr] at h1;cases h1)
  (fun r hr u hu=>⟨fun h=>(by rw [hund r (List.mem_flatMap.2 ⟨r,hr,List.mem_cons_self ..⟩)] at h;cases h),fun _=>hund u (List.mem_flatMap.2 ⟨r,hr,List.mem_cons_of_mem _ hu⟩)⟩)
  (Below.refl _ _) (fun r hr h=>by rw [hund r hr] at h;cases h)
  (fun i hi j hj _ h _=>by
   obtain ⟨p,hp,rfl⟩:=List.mem_map.1 hi;rw [hund p.1 (List.mem_flatMap.2 ⟨p.1,List.mem_map.2 ⟨p,List.contains_iff_mem.1 (h6 p hp),rfl⟩,List.mem_cons_self ..⟩)] at h
   cases h)
 rw [Zl7] at h;exact h
theorem Zlt (RP : List (Nat × Nat)) (att : Nat -> List Nat) (FP : List (Nat × Nat)) (Φ : Nat -> Value -> World -> Prop) (F : Nat) {l0 : Array Bool} {a0 : Act} {w0 : World}
    (hok : (Zhg md ops (RP.map (·.1)) att l0 && (Zac (RP.map (·.1)) att == FP.map (·.1)) && FP.all (fun p=>Zae ops p.1 == p.2) && RP.all (fun p=>Zae ops p.1 == p.2) && FP.all (fun p=>!L.contains p.1)) = true)
    (hst : ∀ p ∈ FP,∀ v w w',Below w.heap.size w w' -> Φ p.1 v w -> Φ p.1 v w') (hS : ∀ w',Below w0.heap.size w0 w' -> S w')
    (hop : ∀ p ∈ RP,∀ (ν : Nat -> Value) (w : World),Below w0.heap.size w0 w -> (∀ q ∈ FP,(Z7 md ops p.1).contains q.1 = true -> Φ q.1 (ν q.2) w) ->
     wpOp P ops (OnlyNormal Q) p.1 (fun a' w'=>∃ v,a' = (Za2 (FP.map (·.2)) a0 ν).put (some p.2) v /\ Φ p.1 v w' /\ Below w.heap.size w w' /\ Zlz P ops Φ w' (att p.1) a') (Za2 (FP.map (·.2)) a0 ν) w)
    (hfin : ∀ (ν : Nat -> Value) (w : World),Below w0.heap.size w0 w -> (∀ p ∈ FP,Φ p.1 (ν p.2) w) -> Z0 P md ops (OnlyNormal Q) L S F (Zah (FP.map (·.1)) l0) (Za2 (FP.map (·.2)) a0 ν) w) :
    Z0 P md ops (OnlyNormal Q) L S (FP.length + F) l0 a0 w0:=
 Zkp [] RP att FP Φ F (by rw [hok];rfl) hst hS (fun p hp ν w hb hP=>wpOp_mono (fun a' w' h=>by
  obtain ⟨v,k1,k2,k3,k4⟩:=h
  exact ⟨v,k1,k2,k3,k4,fun h=>by cases h⟩) (hop p hp ν w hb hP)) (fun ν w hb hf _=>hfin ν w hb hf)
end
end Go.Proofs.YtpehacgjclkhmaaGreat
