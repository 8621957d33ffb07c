/- Rows of fractions in a block of the call's own, whose -/
import Derived.Test.YtkcbhbddgmkoiaaGreatZl26
import Derived.Test.YtkcbhbddgmkoiaaGreatZl27
set_option linter.unusedSimpArgs false
set_option linter.unusedVariables false
namespace Go.Proofs.YtkcbhbddgmkoiaaGreat
open Go.RowKit
theorem Zmv {es : List FE} {i : Nat} (e : FE) (h : i < es.length) : ((((Zm es).set (i * 4) (.bool e.na)).set (i * 4 + 1) (.slice e.A e.n e.c)).set (i * 4 + 2) (.bool e.nb)).set (i * 4 + 3) (.slice e.B e.m e.d) = Zm (es.set i e):=by
 induction es generalizing i with
 | nil=>simp at h
 | cons a l ih =>
  cases i with
  | zero=>rfl
  | succ i =>
   have:=ih (i:=i) (by simpa using h);rw [show (i + 1) * 4 = i * 4 + 1 + 1 + 1 + 1 by omega];simp only [Zm,List.set_cons_succ,this]
theorem Zg1 {es : List FE} {i : Nat} (e : FE) (h : i < es.length) : ((((Z2 es).setIfInBounds (i * 4) (.bool e.na)).setIfInBounds (i * 4 + 1) (.slice e.A e.n e.c)).setIfInBounds (i * 4 + 2) (.bool e.nb)).setIfInBounds (i * 4 + 3) (.slice e.B e.m e.d) = Z2 (es.set i e):=by
 unfold Z2;rw [<- Zmv e h];simp
theorem Zfq {cs : Array Value} (h : NoLimb cs) (i : Nat) {v : Value} (hv : ∀ x,v ≠ limb x) : NoLimb (cs.setIfInBounds i v):=fun j x=>by
 rw [Array.getElem?_setIfInBounds]
 split
 ·split
  ·simpa using hv x
  ·simp
 ·exact h j x
def Zhc (w : World) (g i : Nat) (na : Bool) (A : Option Addr) (n c : Nat) (nb : Bool) (B : Option Addr) (m d : Nat) : World:=
 (((w.setCell ⟨g,i * 4,none⟩ (.bool na)).setCell ⟨g,i * 4 + 1,none⟩ (.slice A n c)).setCell ⟨g,i * 4 + 2,none⟩ (.bool nb)).setCell ⟨g,i * 4 + 3,none⟩ (.slice B m d)
section
variable {w : World} {g i : Nat} {na : Bool} {A : Option Addr} {n c : Nat} {nb : Bool} {B : Option Addr} {m d : Nat}
theorem Zlk {A' : Option Addr} {n' c' : Nat} {l : List Nat} {t : TypeId} {cs : Array Value} (h : Lim w A' n' c' l) (hb : Blk w g t cs) (hcs : NoLimb cs) : Lim (Zhc w g i na A n c nb B m d) A' n' c' l:=by
 have h1:=hb.set_ (i * 4) (.bool na);have l1:=Zfq hcs (i * 4) (v:=.bool na) (fun x=>by simp);have h2:=h1.set_ (i * 4 + 1) (.slice A n c);have l2:=Zfq l1 (i * 4 + 1) (v:=.slice A n c) (fun x=>by simp);have h3:=h2.set_ (i * 4 + 2) (.bool nb);have l3:=Zfq l2 (i * 4 + 2) (v:=.bool nb) (fun x=>by simp);exact (((h.set_box hb hcs _ _).set_box h1 l1 _ _).set_box h2 l2 _ _).set_box h3 l3 _ _
theorem Zge {na' : Bool} {A' : Option Addr} {n' c' : Nat} {nb' : Bool} {B' : Option Addr} {m' d' : Nat} {r : Rat} {t : TypeId} {cs : Array Value} (h : Fr w na' A' n' c' nb' B' m' d' r) (hb : Blk w g t cs) (hcs : NoLimb cs) : Fr (Zhc w g i na A n c nb B m d) na' A' n' c' nb' B' m' d' r:=
 ⟨⟨h.1.1,h.1.2.1,Zlk h.1.2.2 hb hcs⟩,⟨h.2.1,h.2.2.1,Zlk h.2.2.2 hb hcs⟩⟩
theorem Zl8 {g' : Nat} {t : TypeId} {cs : Array Value} (h : Blk w g' t cs) (hg : g' ≠ g) : Blk (Zhc w g i na A n c nb B m d) g' t cs:=(((h.far hg _).far hg _).far hg _).far hg _
theorem Zjt {G : Nat -> Prop} {w0 : World} (h : Kept G w0 w) (hg : G g \/ w0.heap.size <= g) : Kept G w0 (Zhc w g i na A n c nb B m d):=
 (((h.set_ (p:=⟨g,i * 4,none⟩) hg _).set_ (p:=⟨g,i * 4 + 1,none⟩) hg _).set_ (p:=⟨g,i * 4 + 2,none⟩) hg _).set_ (p:=⟨g,i * 4 + 3,none⟩) hg _
end
def FRaw (t : TypeId) (w : World) (g n : Nat) : Prop:=∃ es : List FE,Blk w g t (Z2 es) /\ n <= es.length
def FOwn (t : TypeId) (w : World) (g : Nat) (qs : List Rat) : Prop:=∃ es zs : List FE,Blk w g t (Z2 (es ++ zs)) /\ (∀ e ∈ es,e.in_ w) /\ es.map FE.q = qs
section
variable {t : TypeId} {w w' : World} {g : Nat} {qs : List Rat}
theorem FRaw.lt {n : Nat} (h : FRaw t w g n) : g < w.heap.size:=by obtain ⟨es,h1,h2⟩:=h;exact h1.lt
theorem FRaw.box {n : Nat} (h : FRaw t w g n) : ∃ t cs,Blk w g t cs /\ NoLimb cs:=by obtain ⟨es,h1,h2⟩:=h;exact ⟨t,_,h1,Zbf es⟩
theorem FRaw.cells {n i : Nat} (h : FRaw t w g n) (hi : i < n) : ∃ na A k c nb B m d,w.cell? ⟨g,i * 4,none⟩ = some (.bool na) /\ w.cell? ⟨g,i * 4 + 1,none⟩ = some (.slice A k c) /\ w.cell? ⟨g,i * 4 + 2,none⟩ = some (.bool nb) /\ w.cell? ⟨g,i * 4 + 3,none⟩ = some (.slice B m d):=by
 obtain ⟨es,h1,hn⟩:=h;have hc:=Zcx (List.getElem?_eq_getElem (show i < es.length by omega));exact ⟨_,_,_,_,_,_,_,_,by rw [h1.cell];exact hc.1,by rw [h1.cell];exact hc.2.1,by rw [h1.cell];exact hc.2.2.1,by rw [h1.cell];exact hc.2.2.2⟩
theorem FRaw.frozen {n : Nat} (h : FRaw t w g n) (i : Nat) : w.frozen? ⟨g,i,none⟩ = false:=by obtain ⟨es,h1,-⟩:=h;exact h1.frozen i
theorem FOwn.raw (h : FOwn t w g qs) : FRaw t w g qs.length:=by obtain ⟨es,zs,h1,h2,rfl⟩:=h;exact ⟨es ++ zs,h1,by simp⟩
theorem FOwn.below (h : FOwn t w g qs) (hb : Below w.heap.size w w') : FOwn t w' g qs:=by
 obtain ⟨es,zs,h1,h2,h3⟩:=h;exact ⟨es,zs,Zc hb h1,fun e he=>(h2 e he).below hb,h3⟩
theorem FOwn.lt (h : FOwn t w g qs) : g < w.heap.size:=h.raw.lt
theorem FOwn.box (h : FOwn t w g qs) : ∃ t cs,Blk w g t cs /\ NoLimb cs:=h.raw.box
theorem FOwn.frozen (h : FOwn t w g qs) (i : Nat) : w.frozen? ⟨g,i,none⟩ = false:=h.raw.frozen i
theorem FOwn.at_ (h : FOwn t w g qs) {i : Nat} (hi : i < qs.length) : ∃ na A k c nb B m d,w.cell? ⟨g,i * 4,none⟩ = some (.bool na) /\ w.cell? ⟨g,i * 4 + 1,none⟩ = some (.slice A k c) /\ w.cell? ⟨g,i * 4 + 2,none⟩ = some (.bool nb) /\ w.cell? ⟨g,i * 4 + 3,none⟩ = some (.slice B m d) /\ Fr w na A k c nb B m d (qs[i]?.getD 0):=by
 obtain ⟨es,zs,h1,h2,rfl⟩:=h
 have hl : i < es.length:=by simpa using hi
 have he:=List.getElem?_eq_getElem hl;have hc:=Zcx (es:=es ++ zs) (i:=i) (e:=es[i]) (by rw [List.getElem?_append_left hl];exact he);refine ⟨_,_,_,_,_,_,_,_,by rw [h1.cell];exact hc.1,by rw [h1.cell];exact hc.2.1,by rw [h1.cell];exact hc.2.2.1,by rw [h1.cell];exact hc.2.2.2,?_⟩;rw [List.getElem?_map,he];exact h2 _ (List.getElem_mem hl)
theorem FOwn.set_ (h : FOwn t w g qs) {i : Nat} (hi : i < qs.length) {na : Bool} {A : Option Addr} {k c : Nat} {nb : Bool} {B : Option Addr} {m d : Nat} {r : Rat} (hr : Fr w na A k c nb B m d r) : FOwn t (Zhc w g i na A k c nb B m d) g (qs.set i r):=by
 obtain ⟨es,zs,h1,h2,rfl⟩:=h
 have hl : i < es.length:=by simpa using hi
 have h3:=(((h1.set_ (i * 4) (.bool na)).set_ (i * 4 + 1) (.slice A k c)).set_ (i * 4 + 2) (.bool nb)).set_ (i * 4 + 3) (.slice B m d);have hs:=Zg1 (es:=es ++ zs) (i:=i) ⟨na,A,k,c,nb,B,m,d,r⟩ (by rw [List.length_append];omega);dsimp only at hs;rw [hs,List.set_append_left _ _ hl] at h3;refine ⟨_,zs,h3,fun e he=>?_,by rw [List.map_set]⟩
 rcases List.mem_or_eq_of_mem_set he with he | rfl
 ·exact Zge (h2 e he) h1 (Zbf _)
 ·exact Zge hr h1 (Zbf _)
theorem FOwn.other {g' i : Nat} {na : Bool} {A : Option Addr} {k c : Nat} {nb : Bool} {B : Option Addr} {m d : Nat} (h : FOwn t w g qs) (hne : g ≠ g') (hb : ∃ t cs,Blk w g' t cs /\ NoLimb cs) : FOwn t (Zhc w g' i na A k c nb B m d) g qs:=by
 obtain ⟨es,zs,h1,h2,h3⟩:=h;obtain ⟨t',cs,hb,hcs⟩:=hb;exact ⟨es,zs,Zl8 h1 hne,fun e he=>Zge (h2 e he) hb hcs,h3⟩
theorem OwnF.fown {base : Nat} {v : Value} (h : OwnF t w base v qs) : (v = .slice none 0 0 /\ qs = []) \/ ∃ g c,v = .slice (some ⟨g,0,none⟩) qs.length c /\ base <= g /\ qs.length <= c /\ c <= maxLen /\ FOwn t w g qs:=by
 obtain ⟨es,h1,h2,rfl⟩:=h
 rcases h1 with ⟨rfl,rfl⟩ | ⟨g,sp,rfl,h4,h5,h6⟩
 ·exact .inl ⟨rfl,rfl⟩
 ·exact .inr ⟨g,_,by rw [List.length_map],h4,by rw [List.length_map];omega,h5,es,List.replicate sp Zad,h6,h2,rfl⟩
end
theorem Zqh {t : Array Value} {d : Nat} {u : Value} (h : t[d]? = some u) : t.setIfInBounds d u = t:=by
 apply Array.ext
 ·simp
 ·intro i h1 h2
  rw [Array.getElem_setIfInBounds (by simpa using h1)]
  split
  ·rename_i e
   subst e;rw [Array.getElem?_eq_getElem h2] at h
   injection h with h
   exact h.symm
  ·rfl
section
variable {P : Program} {ops : Array Oper} {Q : Exit -> Act -> World -> Prop} {md : Region.Mode} {L : List Nat} {S : World -> Prop} {f1 f2 d1 d2 F : Nat} {t1 t2 : TypeId} {z1 z2 : Array Value}
theorem Zal {i : Nat} {o : Oper} {K : Act -> World -> Prop} {a : Act} {w : World} (ho : ops[i]? = some o)
    (h : ∀ K' : Act -> World -> Prop,Shut (∀ a w,K a w -> K' a w) -> if Region.wanted o (yielded ops a.tmps) = true then Oper.wp P o a w K' Q else K' (a.put o.dst undef) w) : wpOp P ops Q i K a w:=
 wpOp_step ho (fun K' hK=>h K' hK)
end
def Zaf (md : Region.Mode) (ops : Array Oper) (i : Nat) : List Nat:=match ops[i]? with | some o=>(o.after.toList.filter (fun e=>Region.binds md e)).map (·.on) | none=>[]
def Zak (ops : Array Oper) (i : Nat) : Nat:=match ops[i]? with | some o=>o.dst.getD 0 | none=>0
def Zan (R : List Nat) (l : Array Bool) : Array Bool:=R.foldl (fun l i=>l.setIfInBounds i true) l
def clo (md : Region.Mode) (ops : Array Oper) : List Nat -> List Nat -> List Nat
 | [],c=>c
 | r :: rs,c=>clo md ops rs (if c.contains r then Zaf md ops r ++ c else c)
def Za2 : List Nat -> Bool
 | []=>true
 | x :: l=>!l.contains x && Za2 l
def Zap : List Nat -> Act -> (Nat -> Value) -> Act
 | [],a,_=>a
 | d :: ds,a,ν=>Zap ds (a.put (some d) (ν d)) ν
def upd (ν : Nat -> Value) (d : Nat) (v : Value) : Nat -> Value:=fun k=>if k = d then v else ν k
theorem Zqd {a : Act} {d e : Nat} {u v : Value} (h : d ≠ e) : (a.put (some d) u).put (some e) v = (a.put (some e) v).put (some d) u:=by
 simp only [Act.put];rw [Array.setIfInBounds_comm _ _ h]
theorem Zor {ds : List Nat} {a : Act} {ν : Nat -> Value} {d : Nat} {v : Value} (h : d ∉ ds) : Zap ds (a.put (some d) v) ν = (Zap ds a ν).put (some d) v:=by
 induction ds generalizing a with
 | nil=>rfl
 | cons e ds ih =>
  have h1 : d ≠ e:=fun h'=>h (h' ▸ List.mem_cons_self ..)
  show Zap ds ((a.put (some d) v).put (some e) (ν e)) ν = _;rw [Zqd h1,ih (fun h'=>h (List.mem_cons_of_mem _ h'))]
  rfl
theorem Zi0 {ds : List Nat} {a : Act} {ν : Nat -> Value} {d : Nat} {v : Value} (h : d ∉ ds) : Zap ds a (upd ν d v) = Zap ds a ν:=by
 induction ds generalizing a with
 | nil=>rfl
 | cons e ds ih =>
  have h1 : e ≠ d:=fun h'=>h (h' ▸ List.mem_cons_self ..)
  show Zap ds (a.put (some e) (upd ν d v e)) (upd ν d v) = Zap ds (a.put (some e) (ν e)) ν;rw [ih (fun h'=>h (List.mem_cons_of_mem _ h'))];simp only [upd,if_neg h1]
theorem put_put {a : Act} {d : Nat} {u v : Value} : (a.put (some d) u).put (some d) v = a.put (some d) v:=by
 simp only [Act.put];rw [Array.setIfInBounds_setIfInBounds]
theorem Zaz {x : Nat} {l : List Nat} (h : Za2 (x :: l) = true) : x ∉ l /\ Za2 l = true:=by
 simp only [Za2,Bool.and_eq_true,Bool.not_eq_true'] at h;exact ⟨fun hx=>by rw [List.contains_iff_mem.2 hx] at h;exact absurd h.1 (by simp),h.2⟩
theorem Zgw {ds : List Nat} {a : Act} {ν : Nat -> Value} {d : Nat} {v : Value} (h : d ∈ ds) (hn : Za2 ds = true) : (Zap ds a ν).put (some d) v = Zap ds a (upd ν d v):=by
 induction ds generalizing a with
 | nil=>cases h
 | cons e ds ih =>
  obtain ⟨h1,h2⟩:=Zaz hn;show (Zap ds (a.put (some e) (ν e)) ν).put (some d) v = Zap ds (a.put (some e) (upd ν d v e)) (upd ν d v)
  by_cases hd : d = e
  ·subst hd
   rw [<- Zor h1,put_put,Zi0 h1];simp only [upd,if_true]
  ·rcases List.mem_cons.1 h with h' | h'
   ·exact absurd h' hd
   ·rw [ih h' h2]
    simp only [upd,if_neg (Ne.symm hd)]
theorem Zmq {ds : List Nat} {a : Act} : Zap ds a (fun d=>a.tmps.getD d undef) = a:=by
 induction ds with
 | nil=>rfl
 | cons d ds ih =>
  show Zap ds (a.put (some d) (a.tmps.getD d undef)) _ = a
  have : a.put (some d) (a.tmps.getD d undef) = a:=by
   cases a with
   | mk t df =>
    simp only [Act.put]
    congr 1
    rcases Nat.lt_or_ge d t.size with h | h
    ·exact Zqh (by rw [Array.getD_eq_getD_getElem?,Array.getElem?_eq_getElem h];rfl)
    ·exact Array.setIfInBounds_eq_of_size_le h
  rw [this];exact ih
theorem Za7 (R : List Nat) (l : Array Bool) (k : Nat) : (Zan R l).getD k true = if k ∈ R then true else l.getD k true:=by
 unfold Zan
 induction R generalizing l with
 | nil=>simp
 | cons r R ih =>
  rw [List.foldl_cons,ih]
  by_cases h1 : k ∈ R
  ·rw [if_pos h1,if_pos (List.mem_cons_of_mem _ h1)]
  ·rw [if_neg h1]
   by_cases h2 : k = r
   ·subst h2
    rw [if_pos (List.mem_cons_self ..)];rw [Array.getD_eq_getD_getElem?,Array.getElem?_setIfInBounds]
    split
    ·split <;> rfl
    ·rename_i h;exact absurd rfl h
   ·rw [if_neg (fun h=>by rcases List.mem_cons.1 h with h | h;exact h2 h;exact h1 h),Go.getD_set_ne true (Ne.symm h2)]
theorem Zd2 (R : List Nat) (l : Array Bool) : (Zan R l).size = l.size:=by
 unfold Zan
 induction R generalizing l with
 | nil=>rfl
 | cons r R ih=>rw [List.foldl_cons,ih];simp
theorem Zm5 {l m : Array Bool} (hs : l.size = m.size) (h : ∀ k,l.getD k true = m.getD k true) : l = m:=by
 apply Array.ext hs
 intro i h1 h2;have:=h i;rw [Array.getD_eq_getD_getElem?,Array.getD_eq_getD_getElem?,Array.getElem?_eq_getElem h1,Array.getElem?_eq_getElem h2] at this;exact this
section
variable {P : Program} {ops : Array Oper} {Q : Exit -> Act -> World -> Prop} {md : Region.Mode} {L : List Nat} {S : World -> Prop}
theorem Zmh {l : Array Bool} {R : List Nat} (hd : ∀ r ∈ R,l.getD r false = true -> ∀ p ∈ Zaf md ops r,l.getD p false = true) :
    ∀ (rs : List Nat) (c : List Nat),(∀ r ∈ rs,r ∈ R) -> (∀ x ∈ c,l.getD x false = true) -> ∀ x ∈ clo md ops rs c,l.getD x false = true
 | [],c,_,hc,x,hx=>hc x hx
 | r :: rs,c,hr,hc,x,hx=>by
  refine Zmh hd rs _ (fun y hy=>hr y (List.mem_cons_of_mem _ hy)) (fun y hy=>?_) x hx
  split at hy
  ·rename_i h1
   rcases List.mem_append.1 hy with h2 | h2
   ·exact hd r (hr r (List.mem_cons_self ..)) (hc r (List.contains_iff_mem.1 h1)) y h2
   ·exact hc y h2
  ·exact hc y hy
theorem Zc2 {l : Array Bool} {k : Nat} (h : l.getD k false = true) : l.getD k true = true:=by
 rw [Array.getD_eq_getD_getElem?] at h ⊢
 cases hk : l[k]? with
 | none=>rfl
 | some b=>rw [hk] at h;exact h
theorem Zaa {l : Array Bool} {k j : Nat} (h : l.getD k false = true) : (l.setIfInBounds j true).getD k false = true:=by
 by_cases hkj : j = k
 ·subst hkj
  rw [Array.getD_eq_getD_getElem?,Array.getElem?_setIfInBounds_self];rw [Array.getD_eq_getD_getElem?] at h
  split
  ·rfl
  ·rename_i h1;rw [Array.getElem?_eq_none (by omega)] at h;cases h
 ·rw [Go.getD_set_ne false hkj];exact h
theorem Zic {i : Nat} {l : Array Bool} (h : i ∈ Region.ready md ops l) : l.getD i true = false /\ i < ops.size /\ ∀ p ∈ Zaf md ops i,l.getD p false = true:=by
 obtain ⟨h1,o,ho,h2⟩:=mem_ready.1 h;refine ⟨h1,(Array.getElem?_eq_some_iff.1 ho).1,fun p hp=>?_⟩;unfold Zaf at hp;rw [ho] at hp;obtain ⟨e,he,rfl⟩:=List.mem_map.1 hp;rw [List.mem_filter] at he;exact h2 e (by simpa using he.1) he.2
theorem Zeu {i : Nat} {l : Array Bool} (h1 : l.getD i true = false) {o : Oper} (ho : ops[i]? = some o) (h : ∀ p ∈ Zaf md ops i,l.getD p false = true) : i ∈ Region.ready md ops l:=by
 refine mem_ready.2 ⟨h1,o,ho,fun e he hb=>h _ ?_⟩;unfold Zaf;rw [ho];exact List.mem_map.2 ⟨e,List.mem_filter.2 ⟨by simpa using he,hb⟩,rfl⟩
def left (R : List Nat) (l : Array Bool) : Nat:=(R.filter fun r=>!l.getD r true).length
theorem Zid {f : Nat -> Nat} : ∀ {R : List Nat},Za2 (R.map f) = true -> Za2 R = true
 | [],_=>rfl
 | r :: R,h=>by
  obtain ⟨h1,h2⟩:=Zaz (x:=f r) (l:=R.map f) h;simp only [Za2,Bool.and_eq_true,Bool.not_eq_true'];refine ⟨?_,Zid h2⟩
  cases hc : R.contains r with
  | false=>rfl
  | true=>exact absurd (List.mem_map.2 ⟨r,List.contains_iff_mem.1 hc,rfl⟩) h1
theorem Zdu {f : Nat -> Nat} : ∀ {R : List Nat},Za2 (R.map f) = true -> ∀ {r i : Nat},r ∈ R -> i ∈ R -> r ≠ i -> f r ≠ f i
 | [],_,_,_,h,_,_=>by cases h
 | x :: R,h,r,i,hr,hi,hne=>by
  obtain ⟨h1,h2⟩:=Zaz (x:=f x) (l:=R.map f) h
  rcases List.mem_cons.1 hr with hr' | hr'
  ·rcases List.mem_cons.1 hi with hi' | hi'
   ·exact absurd (hr'.trans hi'.symm) hne
   ·exact fun e=>h1 (List.mem_map.2 ⟨i,hi',by rw [<- e,hr']⟩)
  ·rcases List.mem_cons.1 hi with hi' | hi'
   ·exact fun e=>h1 (List.mem_map.2 ⟨r,hr',by rw [e,hi']⟩)
   ·exact Zdu h2 hr' hi' hne
theorem Zo0 {R : List Nat} {l : Array Bool} {i : Nat} (hi : i ∉ R) : left R (l.setIfInBounds i true) = left R l:=by
 unfold left
 congr 1
 apply List.filter_congr
 intro r hr;rw [Go.getD_set_ne true (fun e : i = r=>hi (e ▸ hr))]
theorem Zh6 {R : List Nat} {l : Array Bool} {i : Nat} (hn : Za2 R = true) (hi : i ∈ R) (h : l.getD i true = false) : left R (l.setIfInBounds i true) + 1 = left R l:=by
 have hlt : i < l.size:=by
  rcases Nat.lt_or_ge i l.size with h' | h'
  ·exact h'
  ·rw [Array.getD_eq_getD_getElem?,Array.getElem?_eq_none h'] at h;cases h
 have hset : (l.setIfInBounds i true).getD i true = true:=by
  rw [Array.getD_eq_getD_getElem?,Array.getElem?_setIfInBounds_self,if_pos hlt];rfl
 induction R with
 | nil=>cases hi
 | cons r R ih =>
  obtain ⟨n1,n2⟩:=Zaz hn
  by_cases hr : i = r
  ·subst hr
   have:=Zo0 (l:=l) n1;unfold left at this ⊢;rw [List.filter_cons_of_neg (by simp [hset]),List.filter_cons_of_pos (by simp [h]),this]
   rfl
  ·have hi2 : i ∈ R:=by
     rcases List.mem_cons.1 hi with h' | h'
     ·exact absurd h' hr
     ·exact h'
   have:=ih n2 hi2;unfold left at this ⊢
   by_cases hb : l.getD r true = true
   ·rw [List.filter_cons_of_neg (by rw [Go.getD_set_ne true hr];simp [hb]),List.filter_cons_of_neg (by simp [hb])];exact this
   ·rw [List.filter_cons_of_pos (by rw [Go.getD_set_ne true hr];simpa using hb),List.filter_cons_of_pos (by simpa using hb),List.length_cons,List.length_cons,this]
theorem Zl3 (R : List (Nat × Nat)) (h : R.all (fun p=>Zak ops p.1 == p.2) = true) : (R.map (·.1)).map (Zak ops) = R.map (·.2):=by
 rw [List.map_map]
 apply List.map_congr_left
 intro p hp;rw [List.all_eq_true] at h
 simpa using h p hp
end
section
variable {P : Program} {ops : Array Oper} {Q : Exit -> Act -> World -> Prop} {md : Region.Mode} {L : List Nat} {S : World -> Prop}
theorem Zgm {i : Nat} {oi : Oper} {v : Value} (hi : ops[i]? = some oi) (hsel : ∀ (j : Nat) (o : Oper) cs b,ops[j]? = some o -> o.op ≠ .select cs b)
    (hQ : ∀ c a w,Q (.panic c) (a.put oi.dst v) w -> Q (.panic c) a w) (hiL : L.contains i = false) :
    ∀ (fuel : Nat) (listed : Array Bool) (a : Act) (w : World),
     (∀ j oj,ops[j]? = some oj -> j ≠ i -> listed.getD j true = false -> (∀ e ∈ oj.after,Region.binds md e = true -> e.on ≠ i) -> oi.apart ops oj = true) ->
     i ∈ Region.ready md ops listed -> YieldsIf P ops (fun _=>True) oi v a -> (Zb7 L listed = true -> S w) ->
     Z8 P md ops Q L S fuel (listed.setIfInBounds i true) (a.put oi.dst v) w -> Z8 P md ops Q L S (fuel + 1) listed a w:=by
 have hiL' : i ∉ L:=fun h=>by
  rw [List.contains_iff_mem.2 h] at hiL
  cases hiL
 intro fuel
 induction fuel with
 | zero =>
  intro listed a w _ hr hy hS H;refine ⟨fun h=>(by rw [h] at hr;cases hr),fun j hj=>?_⟩
  by_cases hji : j = i
  ·subst hji;exact hy.wpOp hi trivial ⟨fun h=>hS (by rwa [Zbv hiL'] at h),H⟩
  ·have:=ready_mono hj hji
   rw [H.1] at this
   cases this
 | succ fuel ih =>
  intro listed a w hfree hr hy hS H;refine ⟨fun h=>(by rw [h] at hr;cases hr),fun j hj=>?_⟩
  by_cases hji : j = i
  ·subst hji;exact hy.wpOp hi trivial ⟨fun h=>hS (by rwa [Zbv hiL'] at h),H⟩
  ·have h1:=H.2 j (ready_mono hj hji)
   obtain ⟨hjun,oj,hoj,hall⟩:=mem_ready.1 hj
   have hnot : ∀ e ∈ oj.after,Region.binds md e = true -> e.on ≠ i:=fun e he hb heq=>by
    have h1:=hall e he hb;have h0:=(mem_ready.1 hr).1;rw [heq] at h1
    rcases Nat.lt_or_ge i listed.size with h' | h'
    ·simp [h'] at h0 h1;rw [h0] at h1;cases h1
    ·simp [Array.getElem?_eq_none h'] at h1
   have h2:=wpOp_putIf hoj (hfree j oj hoj hji hjun hnot) (fun cs b=>hsel i oi cs b hi) (fun cs b=>hsel j oj cs b hoj) hQ hy h1
   have hfree' : ∀ k ok,ops[k]? = some ok -> k ≠ i -> (listed.setIfInBounds j true).getD k true = false ->
       (∀ e ∈ ok.after,Region.binds md e = true -> e.on ≠ i) -> oi.apart ops ok = true:=fun k ok hk hki hun hno=>by
    refine hfree k ok hk hki ?_ hno
    by_cases hjk : j = k
    ·subst hjk;exact hjun
    ·rw [Go.getD_set_ne true hjk] at hun;exact hun
   refine wpOp_mono (fun a' w' h3=>?_) h2
   have hSj : Zb7 L (listed.setIfInBounds j true) = true -> S w':=fun h=>h3.2.1 (by
    rw [Array.setIfInBounds_comm _ _ (Ne.symm hji),Zbv hiL'];exact h)
   refine ⟨hSj,ih (listed.setIfInBounds j true) a' w' hfree' (ready_mono hr (Ne.symm hji)) h3.1 hSj ?_⟩;rw [Array.setIfInBounds_comm _ _ hji];exact h3.2.2
theorem Zl {i : Nat} {oi : Oper} {v : Value} {fuel : Nat} {listed : Array Bool} {a : Act} {w : World} (hi : ops[i]? = some oi)
    (hs : Region.noSelect ops = true) (hf : Region.free md ops listed i = true) (hr : (Region.ready md ops listed).contains i = true) (hL : L.contains i = false)
    (hy : YieldsIf P ops (fun _=>True) oi v a) (hS : Zb7 L listed = true -> S w)
    (h : Z8 P md ops (OnlyNormal Q) L S fuel (listed.setIfInBounds i true) (a.put oi.dst v) w) : Z8 P md ops (OnlyNormal Q) L S (fuel + 1) listed a w:=
 Zgm hi (Region.noSelect_spec hs) (fun _ _ _ h=>(h : False).elim) hL fuel listed a w (Region.free_spec hi hf) (by simpa using hr) hy hS h
end
section
variable {P : Program} {ops : Array Oper} {Q : Exit -> Act -> World -> Prop} {md : Region.Mode} {L : List Nat} {S : World -> Prop}
end
def Zko (md : Region.Mode) (ops : Array Oper) (L : List Nat) : List Nat -> Array Bool -> Bool
 | [],_=>true
 | i :: is,l=>Region.free md ops l i && (Region.ready md ops l).contains i && !L.contains i && Zko md ops L is (l.setIfInBounds i true)
section
variable {P : Program} {ops : Array Oper} {Q : Exit -> Act -> World -> Prop} {md : Region.Mode} {L : List Nat} {S : World -> Prop}
theorem Zj5 (hs : Region.noSelect ops = true) {w : World} (hS : S w) : ∀ (is : List Nat) (F : Nat) (listed : Array Bool) (a : Act),Zko md ops L is listed = true -> Ze1 P ops (fun _=>True) is a (fun a'=>Z8 P md ops (OnlyNormal Q) L S F (Zgj is listed) a' w) -> Z8 P md ops (OnlyNormal Q) L S (F + is.length) listed a w
 | [],F,l,a,_,h=>h
 | i :: is,F,l,a,hc,h=>by
  obtain ⟨oi,v,ho,hy,h2⟩:=h;simp only [Zko,Bool.and_eq_true,Bool.not_eq_true'] at hc;exact Zl ho hs hc.1.1.1 hc.1.1.2 hc.1.2 hy (fun _=>hS) (Zj5 hs hS is F _ _ hc.2 h2)
theorem Zrd {F : Nat} {listed : Array Bool} {a : Act} {w : World} (k : Nat) (is : List Nat) (hk : is.length = k) (hc : (Region.noSelect ops && Zko md ops L is listed) = true) (hS : S w)
    (h : Ze1 P ops (fun _=>True) is a (fun a'=>Z8 P md ops (OnlyNormal Q) L S F (Zgj is listed) a' w)) : Z8 P md ops (OnlyNormal Q) L S (F + k) listed a w:=by
 rw [Bool.and_eq_true] at hc;subst hk;exact Zj5 hc.1 hS is F listed a hc.2 h
end
end Go.Proofs.YtkcbhbddgmkoiaaGreat
