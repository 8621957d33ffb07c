/- How great the numbers of a matrix are (plain). Elimination -/
import Derived.Deep.LoopGhost
import Derived.Test.YtaioanjcjijckaaGreatZb25
import Derived.Test.YtaioanjcjijckaaGreatZb24
set_option maxRecDepth 100000
set_option maxHeartbeats 16000000
set_option linter.unusedSimpArgs false
set_option linter.unusedVariables false
namespace Go.Proofs.YtaioanjcjijckaaGreat
theorem Zks {C C' m:Nat} (hC:C <= C'):∀ (f c r:Nat) (Z:List (List Int)) (la:Int),okZ C m f c r Z la->okZ C' m f c r Z la
 | 0,_,_,_,_,h=>⟨⟨h.1.1,fun i j=>Nat.lt_of_lt_of_le (h.1.2 i j) hC⟩,h.2.1,Nat.lt_of_lt_of_le h.2.2 hC⟩
 | f+1,_,_,_,_,h=>⟨⟨h.1.1,fun i j=>Nat.lt_of_lt_of_le (h.1.2 i j) hC⟩,⟨h.2.1.1,Nat.lt_of_lt_of_le h.2.1.2 hC⟩,h.2.2.imp id (fun ⟨h1,h2⟩=>⟨fun e=>Zks hC f _ _ _ _ (h1 e),fun e=>Zks hC f _ _ _ _ (h2 e)⟩)⟩
theorem pw_pow (k n:Nat):pw k ^ n=pw (k * n):=by
 induction n with
 | zero=>rfl
 | succ n ih=>rw [Nat.pow_succ,ih,Nat.mul_succ,Zci]
theorem le_pw1 {n:Nat} (h:n <= 900):n <= pw 1:=by rw [Zaq,Zcw];omega
theorem Zmw {b:Nat}:∀ n,n <= 900->Za9 (pw b) n <= pw ((b+1) * n)
 | 0,_=>Nat.le_refl _
 | n+1,h=>by
  have h1:=Zmw (b:=b) n (by omega);have h2:(n+1) * (pw b * Za9 (pw b) n) <= pw 1 * (pw b * pw ((b+1) * n)):=Nat.mul_le_mul (le_pw1 h) (Nat.mul_le_mul (Nat.le_refl _) h1);rw [<- Zci,<- Zci] at h2;rw [show (b+1) * (n+1)=1+(b+(b+1) * n) by rw [Nat.mul_succ];omega];exact h2
def SmE (k:Nat) (Q:List (List Rat)):Prop:=∀ i j,(Zg Q i j).num.natAbs <= pw k/\(Zg Q i j).den <= pw k
section
variable {k n m:Nat} {Q:List (List Rat)}
theorem SmE.denTo (h:SmE k Q) (i t:Nat):denTo (Q[i]?.getD []) t <= pw (k * t):=by
 rw [<- pw_pow];exact Zta _ (fun j=>(h i j).2) t
theorem SmE.denAt (h:SmE k Q) {i:Nat} (hr:(Q[i]?.getD []).length=m):denAt Q i <= pw (k * m):=by
 have:=h.denTo i m;unfold Go.Proofs.YtaioanjcjijckaaGreat.denAt;rw [hr];exact this
theorem Zm6 {z:Int} {d:Nat} {q:Rat} (h:(z:Rat)=(d:Nat) * q):z.natAbs <= d * q.num.natAbs:=by
 have h1:(z:Rat) * ((q.den:Nat):Rat)=((d:Nat):Rat) * ((q.num:Int):Rat):=by
  have e0:((q.num:Int):Rat) / ((q.den:Nat):Rat)=q:=by have:=Rat.num_divInt_den q;rw [Rat.divInt_eq_div,Rat.intCast_natCast] at this;exact this
  have e1:((q.den:Nat):Rat) ≠ 0:=by
   intro h;have:q.den=0:=by exact_mod_cast h
   have:=q.den_pos;omega
  have e2:((q.num:Int):Rat)=q * ((q.den:Nat):Rat):=by
   have:((q.num:Int):Rat) / ((q.den:Nat):Rat) * ((q.den:Nat):Rat)=((q.num:Int):Rat):=by grind
   rw [e0] at this;exact this.symm
  rw [h,e2];grind
 have h2:z * (q.den:Int)=(d:Int) * q.num:=by exact_mod_cast h1
 have h3:=congrArg Int.natAbs h2;rw [Int.natAbs_mul,Int.natAbs_mul,Int.natAbs_natCast,Int.natAbs_natCast] at h3;rw [<- h3];exact Nat.le_mul_of_pos_right _ q.den_pos
theorem SmE.whole (h:SmE k Q) {i:Nat} (hr:(Q[i]?.getD []).length=m) (j:Nat):(Zbc (Zbd Q) i j).natAbs <= pw (k * m+k):=by
 refine Nat.le_trans (Zm6 (Zg9 Q i j)) ?_;rw [Zci];exact Nat.mul_le_mul (h.denAt hr) (h i j).1
end
def qM (rs:List RX):List (List Rat):=rs.map fun r=>r.es.map FX.q
section
variable {w:World} {A:Option Addr} {n c:Nat} {rs:List RX}
theorem qM_len (h:MXL w A n c rs):(qM rs).length=n:=by unfold qM;rw [List.length_map];exact h.1
end
theorem Zps {α:Type} (l:List α) (i:Nat):Zas l i i=l:=by
 apply List.ext_getElem?
 intro j;unfold Zas
 cases h:l[i]? with
 | none=>rfl
 | some x =>
  have hi:=(List.getElem?_eq_some_iff.1 h).1;simp only;rw [List.getElem?_set,List.getElem?_set,List.length_set]
  by_cases hij:i=j
  ·subst hij;rw [if_pos rfl,if_pos hi,h]
  ·rw [if_neg hij,if_neg hij]
def Zl (A:Nat->Nat->Rat):Nat->Nat->Nat->Rat
 | 0,i,k=>A i k
 | t+1,i,k=>if t < i then Zl A t i k - Zl A t i t / Zl A t t t * Zl A t t k else Zl A t i k
theorem Zfb {A:Nat->Nat->Rat} {i k:Nat}:∀ {t:Nat},i <= t->Zl A t i k=Zl A i i k
 | 0,h=>by rw [show i=0 by omega]
 | t+1,h=>by
  by_cases hit:i=t+1
  ·rw [hit]
  ·show (if t < i then _ else _)=_
   rw [if_neg (by omega)];exact Zfb (by omega)
theorem Zef {A:Nat->Nat->Rat} {t i k:Nat} (h:t < i):Zl A (t+1) i k=Zl A t i k - Zl A t i t / Zl A t t t * Zl A t t k:=by
 show (if t < i then _ else _)=_;rw [if_pos h]
theorem Zdp {A:Nat->Nat->Rat} {n:Nat} (hA:∀ i k,i < n->k < n->A i k=A k i):∀ (t i k:Nat),t <= i->t <= k->i < n->k < n->Zl A t i k=Zl A t k i
 | 0,i,k,_,_,hi,hk=>hA i k hi hk
 | t+1,i,k,h1,h2,hi,hk=>by
  rw [Zef (by omega),Zef (by omega),Zdp hA t i k (by omega) (by omega) hi hk,Zdp hA t i t (by omega) (by omega) hi (by omega),Zdp hA t t k (by omega) (by omega) (by omega) hk];rw [Rat.div_def,Rat.div_def]
  grind
theorem Zb0 {A C:Nat->Nat->Rat} {n m:Nat} (h:∀ i k,i < n->k < m->A i k=C i k) (hnm:n <= m):∀ (t i k:Nat),t <= n->i < n->k < m->Zl A t i k=Zl C t i k
 | 0,i,k,_,hi,hk=>h i k hi hk
 | t+1,i,k,ht,hi,hk=>by
  show (if t < i then _ else _)=(if t < i then _ else _);rw [Zb0 h hnm t i k (by omega) hi hk,Zb0 h hnm t i t (by omega) hi (by omega),Zb0 h hnm t t t (by omega) (by omega) (by omega),Zb0 h hnm t t k (by omega) (by omega) hk]
def dQ (A:Nat->Nat->Rat) (i:Nat):Rat:=Zl A i i i
def lQ (A:Nat->Nat->Rat) (i k:Nat):Rat:=Zl A k i k / dQ A k
theorem Zjl {A:Nat->Nat->Rat} {n:Nat} (hA:∀ i k,i < n->k < n->A i k=A k i) {t i k:Nat} (ht:t < k) (hk:k <= i) (hi:i < n) (hd:dQ A t ≠ 0) :
    Zl A (t+1) i k=Zl A t i k - lQ A i t * lQ A k t * dQ A t:=by
 rw [Zef (by omega),Zdp hA t t k (by omega) (by omega) (by omega) (by omega)];unfold lQ dQ at *
 grind
theorem Zl2 {A:Nat->Nat->Rat} {t i k:Nat} (ht:t < i):Zl A (t+1) i k=Zl A t i k - lQ A i t * Zl A t t k:=by
 rw [Zef ht];rfl
def Zcl (R:List (List Rat)):Nat->List (List Rat)
 | 0=>R
 | t+1=>Za8 (Zcl R t) t t
theorem Ze5 (R:List (List Rat)):∀ t,(Zcl R t).length=R.length
 | 0=>rfl
 | t+1=>by
  show (Za8 _ _ _).length=_;rw [Zea];exact Ze5 R t
def posP (A:Nat->Nat->Rat) (n:Nat):Prop:=∀ t,t < n->0 < dQ A t
theorem posP.mono {A:Nat->Nat->Rat} {n m:Nat} (h:posP A n) (hm:m <= n):posP A m:=fun t ht=>h t (by omega)
theorem posP.ne {A:Nat->Nat->Rat} {n:Nat} (h:posP A n) {t:Nat} (ht:t < n):dQ A t ≠ 0:=fun h0=>by have:=h t ht;rw [h0] at this;exact absurd this (by decide)
section
variable {B S n m:Nat} {R:List (List Rat)}
theorem Zlw {pc:Nat->Nat} {G:Nat->Nat->Rat} {s:Nat->Rat} (h0:EIR B S n m 0 0 R pc G s):∀ t,t <= n->t <= m->posP (Zg R) t->(∃ pc,EIR B S n m t t (Zcl R t) pc G s)/\∀ i k,i < n->Zg (Zcl R t) i k=Zl (Zg R) t i k
 | 0,_,_,_=>⟨⟨_,h0⟩,fun i k _=>rfl⟩
 | t+1,hn,hm,hp=>by
  obtain ⟨⟨pc,h1⟩,h2⟩:=Zlw h0 t (by omega) (by omega) (hp.mono (by omega))
  have h0:Zg (Zcl R t) t t ≠ 0:=by rw [h2 t t (by omega)];exact hp.ne (by omega)
  refine ⟨⟨_,h1.clear (by omega) (by omega) h0⟩,fun i k hi=>?_⟩;show Zg (Za8 (Zcl R t) t t) i k=if t < i then _ else _;rw [Zfg (m:=m) (fun i hi=>h1.row i (by rw [h1.len] at hi;exact hi)) (fun j hj=>h1.low t j (Nat.le_refl _) (by omega) hj) i k (by rw [h1.len];exact hi) (by rw [h1.len];omega)]
  by_cases hti:t < i
  ·rw [if_neg (by omega),if_pos hti,h2 i k hi,h2 i t hi,h2 t t (by omega),h2 t k (by omega)]
  ·rw [if_pos (by omega),if_neg hti,h2 i k hi]
theorem Zhq (hl:R.length=n) (hrow:∀ i,i < n->(R[i]?.getD []).length=m) (hS:∀ i,i < n->denAt R i <= S) (hBd:∀ i j,i < n->(Zbc (Zbd R) i j).natAbs <= B) (t:Nat) (hn:t <= n) (hm:t <= m) (hp:posP (Zg R) t) :
    (∃ pc G s,EIR B S n m t t (Zcl R t) pc G s)/\∀ i k,i < n->Zg (Zcl R t) i k=Zl (Zg R) t i k:=by
 obtain ⟨⟨pc,h1⟩,h2⟩:=Zlw (Zkh R hl hrow hS hBd).1 t hn hm hp;exact ⟨⟨_,_,_,h1⟩,h2⟩
theorem Zqi {z:Nat->Bool} {N f k:Nat} (h:z k=false):Zbp z N f k=k:=by
 cases f with
 | zero=>rfl
 | succ f =>
  show (if _ then _ else _)=_;rw [if_neg (by rw [h];simp)]
theorem Zlp (hl:R.length=n) (hnm:n <= m) (hrow:∀ i,i < n->(R[i]?.getD []).length=m) (hS:∀ i,i < n->denAt R i <= S) (hBd:∀ i j,i < n->(Zbc (Zbd R) i j).natAbs <= B) (hp:posP (Zg R) n):∀ f t,t+f=n->Zbe f t t (Zcl R t) false=(Zcl R n,n,false)
 | 0,t,h=>by
  obtain rfl:t=n:=by omega
  rfl
 | f+1,t,h=>by
  obtain ⟨-,h2⟩:=Zhq hl hrow hS hBd t (by omega) (by omega) (hp.mono (by omega))
  have hL:(Zcl R t).length=n:=by rw [Ze5,hl]
  have h0:Zg (Zcl R t) t t ≠ 0:=by rw [h2 t t (by omega)];exact hp.ne (by omega)
  have hq:Zbp (fun i=>Zg (Zcl R t) i t == 0) (Zcl R t).length (Zcl R t).length t=t:=Zqi (by simpa using h0);show (if _ then _ else if _ then _ else _)=_;rw [if_neg (by rw [hL];omega),hq,if_neg (by rw [hL];omega),Zps]
  have h3:(false != decide (t ≠ t))=false:=by simp
  rw [h3];exact Zlp hl hnm hrow hS hBd hp f (t+1) (by omega)
end
section
variable {k n m:Nat} {R:List (List Rat)}
end
theorem SmE.red2 {k n m:Nat} {R:List (List Rat)} (h:SmE k R) (hl:R.length=n) (hn:n <= 900) (hrow:∀ i,i < n->(R[i]?.getD []).length=m) {t:Nat} (ht:t <= n) (htm:t <= m) (hp:posP (Zg R) t) {i:Nat} (hi:i < n) (j:Nat):SmN ((k * m+k+1) * n+1) ((k * m+k+1) * n+k * m+1) (Zl (Zg R) t i j):=by
 obtain ⟨⟨pc,G,s,h3⟩,h4⟩:=Zhq (B:=pw (k * m+k)) (S:=pw (k * m)) hl hrow (fun i hi=>h.denAt (hrow i hi)) (fun i j hi=>h.whole (hrow i hi) j) t ht htm hp;obtain ⟨h5,h6⟩:=h3.bound (Zb2 _) hi j;rw [h4 i j hi] at h5 h6;have hb:=Zmw (b:=k * m+k) n hn;refine ⟨Nat.lt_of_le_of_lt (Nat.le_trans h5 hb) (Zc4 (by omega)),?_⟩;refine Nat.lt_of_le_of_lt (Nat.le_trans h6 (Nat.mul_le_mul hb (Nat.le_refl _))) ?_;rw [<- Zci];exact Zc4 (by omega)
structure FacP (A:Nat->Nat->Rat) (n:Nat):Prop where
 sym:∀ i k,i < n->k < n->A i k=A k i
 s:∀ t i k,t <= n->posP A t->i < n->k < n->SmN 380 380 (Zl A t i k)
 l:∀ i k,k <= i->i < n->posP A (k+1)->SmN 300 300 (lQ A i k)
section
variable {A:Nat->Nat->Rat} {n:Nat}
theorem FacP.d (h:FacP A n) {k:Nat} (hk:k < n) (hp:posP A k):SmN 380 380 (dQ A k):=h.s k k k (by omega) hp hk hk
theorem FacP.ll (h:FacP A n) {i j k:Nat} (hki:k <= i) (hi:i < n) (hkj:k <= j) (hj:j < n) (hp:posP A (k+1)):SmN 600 600 (lQ A i k * lQ A j k):=((h.l i k hki hi hp).mulN (h.l j k hkj hj hp)).mono (by decide) (by decide)
theorem FacP.lld (h:FacP A n) {i j k:Nat} (hki:k <= i) (hi:i < n) (hkj:k <= j) (hj:j < n) (hp:posP A (k+1)):SmN 980 980 (lQ A i k * lQ A j k * dQ A k):=((h.ll hki hi hkj hj hp).mulN (h.d (show k < n by omega) (hp.mono (by omega)))).mono (by decide) (by decide)
end
theorem FacP.of {k n:Nat} {R:List (List Rat)} (h:SmE k R) (hl:R.length=n) (hn:n <= 900) (hrow:∀ i,i < n->(R[i]?.getD []).length=n) (hA:∀ i k,i < n->k < n->Zg R i k=Zg R k i) (h1:(k * n+k+1) * n+((k * n+k+1) * n+k * n)+2 <= 300):FacP (Zg R) n:=by
 refine ⟨hA,fun t i j ht hp hi _=>(h.red2 hl hn hrow ht ht hp hi j).mono (by omega) (by omega),fun i j hji hi hp=>?_⟩
 have hj:j < n:=by omega
 have a:=h.red2 hl hn hrow (t:=j) (by omega) (by omega) (hp.mono (by omega)) hi j;have b:=h.red2 hl hn hrow (t:=j) (by omega) (by omega) (hp.mono (by omega)) hj j;exact (a.divN b (hp.ne (by omega))).mono (by omega) (by omega)
open Go.RowKit
attribute [local go_sem] Zf
theorem Zl8:(Tryz.prog.info? 99).map (fun i=>(i.zero,i.size,i.bytes))=some (some (.agg #[.bool false,.slice none 0 0,.bool false,.slice none 0 0]),4,64):=by kernel_rfl
theorem Zu3:(Tryz.prog.info? 92).map (fun i=>(i.zero,i.size,i.bytes))=some (some (.slice none 0 0),1,24):=by kernel_rfl
theorem Ze8 {w:World} {t:TypeId} {g:Nat} {A:Option Addr} {n c:Nat} (h:Blk w g t #[.slice A n c]):Reads w (g+1) 1 (some ⟨g,0,none⟩) 1 (Zan [⟨A,n,c⟩]):=
 ⟨rfl,fun _=>⟨_,rfl,Nat.lt_succ_self _,fun j u hu=>by
  rw [Zf,Nat.zero_add,h.cell]
  simpa [Zan] using hu⟩⟩
def Zhc (A:Nat->Nat->Rat) (i k:Nat):List Rat:=(List.range k).map (lQ A i)
def Zfs (A:Nat->Nat->Rat) (i:Nat):List (List Rat):=(List.range i).map fun r=>Zhc A r r
def dsL (A:Nat->Nat->Rat) (i:Nat):List Rat:=(List.range i).map (dQ A)
section
variable {A:Nat->Nat->Rat} {i j k:Nat}
theorem Zex:(Zhc A i k).length=k:=by simp [Zhc]
theorem Zcg:(Zfs A i).length=i:=by simp [Zfs]
theorem Zds:(dsL A i).length=i:=by simp [dsL]
theorem Zi5 (h:j < k):(Zhc A i k)[j]?.getD 0=lQ A i j:=by simp [Zhc,h]
theorem Zjz (h:j < i):(Zfs A i)[j]?.getD []=Zhc A j j:=by simp [Zfs,h]
theorem Zmq (h:j < i):(dsL A i)[j]?.getD 0=dQ A j:=by simp [dsL,h]
theorem Zsu:Zhc A i (k+1)=Zhc A i k ++ [lQ A i k]:=by simp [Zhc,List.range_succ]
theorem Zbn:Zfs A (i+1)=Zfs A i ++ [Zhc A i i]:=by simp [Zfs,List.range_succ]
theorem Ze7:dsL A (i+1)=dsL A i ++ [dQ A i]:=by simp [dsL,List.range_succ]
end
theorem cmpZ_pos0 {z:Int}:(0 < Zbo z 0) ↔ 0 < z:=by
 unfold Zbo
 split
 ·constructor <;> intro h <;> omega
 ·split
  ·constructor <;> intro h <;> omega
  ·constructor <;> intro h <;> omega
theorem num_pos0 {q:Rat}:0 < q.num ↔ 0 < q:=by
 constructor
 ·intro h
  refine Rat.lt_of_le_of_ne (Rat.num_nonneg.1 (by omega)) (fun e=>?_);rw [<- e] at h;exact absurd h (by decide)
 ·intro h
  have h5:=Rat.num_nonneg.2 (Rat.le_of_lt h)
  rcases Int.lt_or_eq_of_le h5 with h6 | h6
  ·exact h6
  ·rw [Rat.num_eq_zero.1 h6.symm] at h
   exact absurd h (by decide)
def FacPost (A:Nat->Nat->Rat) (n:Nat) (w:World) (e:Ending) (w':World):Prop:=
 Below w.heap.size w w'/\((posP A n/\∃ v1 v2 rs,e=.returned (.agg #[v1,v2])/\FacM 92 99 w' w.heap.size v1 v2 rs (Zfs A n) (dsL A n)) \/
  (¬ posP A n/\e=.panicked [{ v:=.iface 154 (.agg #[.int .i64 8]),recovered:=false }]))
theorem FacM.lower {tS tN:TypeId} {w:World} {b b':Nat} {v1 v2:Value} {rs:List RS} {Q:List (List Rat)} {ds:List Rat} (h:FacM tS tN w b v1 v2 rs Q ds) (hb:b' <= b):FacM tS tN w b' v1 v2 rs Q ds:=by
 refine ⟨⟨?_,h.1.2.1,fun i r hr=>(h.1.2.2.1 i r hr).lower hb,h.1.2.2.2⟩,h.2.1.lower hb,h.2.2⟩
 rcases h.1.1 with h | ⟨g,sp,h1,h2,h3⟩
 ·exact .inl h
 ·exact .inr ⟨g,sp,h1,Nat.le_trans hb h2,h3⟩
theorem Zlu {A:Nat->Nat->Rat} {n i k j:Nat} (h:FacP A n) (hi:i < n) (hk:k < i) (hj:j < k) (hp:posP A i):(∀ t,t < 2->Sm (Zgy (lQ A i j) [lQ A k j,dQ A j] t))/\∀ t:Nat,t < 2->Sm ([lQ A k j,dQ A j][t]?.getD 0):=by
 have hp1:posP A (j+1):=hp.mono (by omega)
 constructor
 ·intro t ht
  match t,ht with
  | 0,_=>exact (h.l i j (by omega) hi hp1).sm (by decide) (by decide)
  | 1,_=>exact (h.ll (by omega) hi (by omega) (show k < n by omega) hp1).sm (by decide) (by decide)
 ·intro t ht
  match t,ht with
  | 0,_=>exact (h.l k j (by omega) (by omega) hp1).sm (by decide) (by decide)
  | 1,_=>exact (h.d (show j < n by omega) (hp.mono (by omega))).sm (by decide) (by decide)
theorem Zjf {A:Nat->Nat->Rat} {n i k:Nat} (h:FacP A n) (hi:i < n) (hk:k < i) (hp:posP A i):(∀ t,t < 2->Sm (Zgy (lQ A i k) [lQ A i k,dQ A k] t))/\∀ t:Nat,t < 2->Sm ([lQ A i k,dQ A k][t]?.getD 0):=by
 have hp1:posP A (k+1):=hp.mono (by omega)
 constructor
 ·intro t ht
  match t,ht with
  | 0,_=>exact (h.l i k (by omega) hi hp1).sm (by decide) (by decide)
  | 1,_=>exact (h.ll (by omega) hi (by omega) hi hp1).sm (by decide) (by decide)
 ·intro t ht
  match t,ht with
  | 0,_=>exact (h.l i k (by omega) hi hp1).sm (by decide) (by decide)
  | 1,_=>exact (h.d (show k < n by omega) (hp.mono (by omega))).sm (by decide) (by decide)
theorem Zs2 {A:Nat->Nat->Rat} {n i k j:Nat} (h:FacP A n) (hi:i < n) (hk:k < i) (hj:j < k) (hp:posP A i):Sm (Zl A j i k)/\Sm (Zgy (lQ A i j) [lQ A k j,dQ A j] 2):=
 ⟨(h.s j i k (by omega) (hp.mono (by omega)) hi (by omega)).sm (by decide) (by decide),(h.lld (by omega) hi (by omega) (show k < n by omega) (hp.mono (by omega))).sm (by decide) (by decide)⟩
theorem Zq2 {A:Nat->Nat->Rat} {n i k:Nat} (h:FacP A n) (hi:i < n) (hk:k < i) (hp:posP A i):Sm (Zl A k i i)/\Sm (Zgy (lQ A i k) [lQ A i k,dQ A k] 2):=
 ⟨(h.s k i i (by omega) (hp.mono (by omega)) hi hi).sm (by decide) (by decide),(h.lld (by omega) hi (by omega) hi (hp.mono (by omega))).sm (by decide) (by decide)⟩
theorem fac_q {A:Nat->Nat->Rat} {n i k:Nat} (h:FacP A n) (hi:i < n) (hk:k < i) (hp:posP A i):Sm (Zl A k i k)/\Sm (dQ A k)/\dQ A k ≠ 0:=
 ⟨(h.s k i k (by omega) (hp.mono (by omega)) hi (by omega)).sm (by decide) (by decide),(h.d (show k < n by omega) (hp.mono (by omega))).sm (by decide) (by decide),hp.ne hk⟩
theorem Zpj (A0:Option Addr) (n c:Nat) (Q:List (List Rat)) (w:World) (h:MFL w A0 n c Q) (hn9:n <= 900) (hm:∀ i,i < n->(Q[i]?.getD []).length=n) (hF:FacP (Zg Q) n) :
    Calls Tryz.prog 113 #[.slice A0 n c] w (FacPost (Zg Q) n w):=by
 obtain ⟨iN,hi,hz0,hz1,hz2⟩:=info_parts Zl8;obtain ⟨iS,ki,kz0,kz1,kz2⟩:=info_parts Zu3
 have hmx:Tryz.prog.follows .mixedOrders=true:=by kernel_rfl
 have hts:(92:TypeId) ≠ 99:=by decide
 have hcap:=h.2.1;have hcm:=h.2.2.1;unfold maxLen at hcm;obtain ⟨AQ,hAQ⟩:∃ A,Zg Q=A:=⟨_,rfl⟩;rw [hAQ] at hF ⊢;obtain ⟨W0,hW0,hB0,q0,s0⟩:=Zaw w 94 #[.slice none 0 0,.slice none 0 0];obtain ⟨gx,hgx⟩:∃ g,w.heap.size=g:=⟨_,rfl⟩;rw [hgx] at q0 s0 hB0;have hsz:Hid (W0.heap.size=gx+1):=Za s0;have hH:=Za h;replace hm:=Za hm;replace hF:=Za hF;replace hAQ:=Za hAQ;clear h s0;go_enter Tryz.func113,Tryz.ntmps113;go_wp2_with fail;(try rw [hW0]);(try rw [hgx]);replace hgx:=Za hgx;replace hB0:=Za hB0;clear hW0
 go_loopg [12] n (fun t iv wr=>∃ (i:Nat) (v1 v2:Value) (rs:List RS),i+t=n/\iv=.int .i64 i/\Blk wr gx 94 #[v1,v2]/\FacM 92 99 wr W0.heap.size v1 v2 rs (Zfs AQ i) (dsL AQ i)/\Hid (posP AQ i)/\Kept (fun k=>k=gx) W0 wr)
 case atStart=>exact ⟨0,.slice none 0 0,.slice none 0 0,[],by omega,rfl,q0,FacM.nil _ _ _ _,Za (fun t ht=>by omega),Kept.refl _ _⟩
 case round =>
  clear q0;obtain ⟨wi,rfl⟩:∃ x:World,x=wr:=⟨_,rfl⟩;obtain ⟨i,v1,v2,rs,hik,rfl,hbx,hFM,hpos,hK⟩:=hrel;have hsz':=hsz.out;have hBwr:Hid (Below gx w wi):=Za (hB0.out.trans (hK.to_below (fun k hk=>by omega) (by omega)));obtain ⟨A1,c1,e1,hM1⟩:=hFM.1.mflA;obtain ⟨A2,c2,e2,hL2⟩:=hFM.2.1.fl;rw [Zcg] at e1 hM1;rw [Zds] at e2 hL2;subst e1;subst e2
  have x0:wi.cell? ⟨gx,0,none⟩=some (.slice A1 i c1):=by rw [hbx.cell];rfl
  have x1:wi.cell? ⟨gx,1,none⟩=some (.slice A2 i c2):=by rw [hbx.cell];rfl
  have z0:=hbx.frozen 0;have z1:=hbx.frozen 1
  cases gk with
  | zero =>
   obtain rfl:i=n:=by omega
   have t1:decide ((i:Int) < (i:Int))=false:=by simp
   obtain ⟨X,hX⟩:∃ X,(wi.setCell ⟨gx,0,none⟩ (.slice A1 i c1)).setCell ⟨gx,1,none⟩ (.slice A2 i c2)=X:=⟨_,rfl⟩
   have hKX:Kept (fun k=>k=gx) wi X:=by rw [<- hX];exact Kept.set_ (G:=fun k=>k=gx) (Kept.set_ (G:=fun k=>k=gx) (Kept.refl _ _) (p:=⟨gx,0,none⟩) (.inl rfl) _) (p:=⟨gx,1,none⟩) (.inl rfl) _
   have hbX:Blk X gx 94 #[.slice A1 i c1,.slice A2 i c2]:=by rw [<- hX];exact (hbx.set_ 0 (.slice A1 i c1)).set_ 1 (.slice A2 i c2)
   have y0:X.cell? ⟨gx,0,none⟩=some (.slice A1 i c1):=by rw [hbX.cell];rfl
   have y1:X.cell? ⟨gx,1,none⟩=some (.slice A2 i c2):=by rw [hbX.cell];rfl
   have hFX:=Za (hFM.box hbx (Zdc _ _ _ _ _ _) (by omega) hKX);have hBX:Hid (Below gx w X):=Za (hBwr.out.trans (hKX.to_below (fun k hk=>by omega) (by have:=hBwr.out.size;have:=hK.size;omega)));clear hFM hM1 hL2 hK hKX hbX hbx;go_wp2_with fail;(try rw [hX]);refine bodyPost_ret (v:=.agg #[.slice A1 i c1,.slice A2 i c2]) (by simp [results,Tryz.results113,go_sem,y0,y1]) rfl ?_;refine ⟨by rw [hgx.out];exact hBX.out,.inl ⟨hpos.out,_,_,rs,rfl,hFX.out.lower (by rw [hgx.out];omega)⟩⟩
  | succ t =>
   obtain rfl:t=n - (i+1):=by omega
   have hin:i < n:=by omega
   have t1:decide ((i:Int) < (n:Int))=true:=decide_eq_true (by omega)
   have bi:(i:Int) < (n:Int):=by omega
   obtain ⟨ga,oa,Ar,nr,cr,rfl,k0,hR⟩:=(hH.out.below (hgx.out ▸ hBwr.out)).at_ hin;obtain ⟨row,hrow⟩:∃ X,Q[i]?.getD []=X:=⟨_,rfl⟩;rw [hrow] at hR
   have hn1:n=nr:=by rw [<- hR.len,<- hrow];exact (hm.out i hin).symm
   subst hn1;have hent:Hid (∀ t:Nat,row[t]?.getD 0=AQ i t):=Za (fun t=>by rw [<- hAQ.out,<- hrow];rfl);replace hrow:=Za hrow;obtain ⟨gr,or_,xn,xA,xk,xc,xm,xB,xj,xd,rfl,⟨r0,r1,r2,r3⟩,hX⟩:=hR.at_ hin;rw [hent.out] at hX;obtain ⟨V1,hV1,hBV1,p1,s1⟩:=Zaw wi 99 #[.bool false,.slice none 0 0,.bool false,.slice none 0 0];obtain ⟨gl,hgl⟩:∃ g,wi.heap.size=g:=⟨_,rfl⟩;rw [hgl] at p1 s1;obtain ⟨u0,u1,u2,u3,v0,v1,v2,v3⟩:=p1.four;obtain ⟨W2,hW2,p2,hK2,s2⟩:=Zao xn xA xk xc xm xB xj xd p1;have hB2:Below wi.heap.size wi W2:=hBV1.trans (hK2.to_below (fun k e=>by omega) hBV1.size);have hs2:Hid (W2.heap.size=gl+1):=Za (by rw [s2,s1]);have hX2:=Za (hX.below hB2);have hgxl:Hid (gx < gl):=Za (by have:=hBwr.out.size;have:=hK.size;omega);replace hB2:=Za hB2;replace hFM:=Za hFM;replace hM1:=Za hM1;replace hL2:=Za hL2;replace hR:=Za hR;replace hbx:=Za hbx;replace hK:=Za hK;replace p2:=Za p2;clear hX hBV1 hK2 s1 s2;go_wp2_with fail;(try rw [hgl]);(try rw [hW2]);clear u0 u1 u2 u3 v0 v1 v2 v3 p1 hV1 hW2 r0 r1 r2 r3 k0;replace hgl:=Za hgl
   go_loopg [5,23] i (fun t ov kv wk=>∃ (k:Nat) (ln:Bool) (lA:Option Addr) (lk lc:Nat) (lm:Bool) (lB:Option Addr) (lj ld:Nat),k+t=i/\kv=.int .i64 k/\OwnF 99 wk W2.heap.size ov (Zhc AQ i k)/\Blk wk gl 99 #[.bool ln,.slice lA lk lc,.bool lm,.slice lB lj ld]/\Hid (Fr wk ln lA lk lc lm lB lj ld (Zl AQ k i i))/\Kept (fun g=>g=gl) W2 wk)
   case atStart=>exact ⟨0,_,_,_,_,_,_,_,_,by omega,rfl,OwnF.nil _ _ _,p2.out,hX2,Kept.refl _ _⟩
   case round =>
    clear p2 hX2;obtain ⟨wk,rfl⟩:∃ x:World,x=wr:=⟨_,rfl⟩;obtain ⟨k,ln,lA,lk,lc,lm,lB,lj,ld,hkt,rfl,hown,hbl,hl,hK3⟩:=hrel;have hs2':=hs2.out;have hgl':=hgl.out;have hgxl':=hgxl.out;have hBk:Hid (Below wi.heap.size wi wk):=Za (hB2.out.trans (hK3.to_below (fun k e=>by omega) (by omega)));obtain ⟨Ao,co,e3,hFo⟩:=hown.fl;rw [Zex] at e3 hFo;subst e3;have hocap:=hFo.cap;unfold maxLen at hocap;have hbxk:=Zc hBk.out hbx.out
    have xk0:wk.cell? ⟨gx,0,none⟩=some (.slice A1 i c1):=by rw [hbxk.cell];rfl
    have xk1:wk.cell? ⟨gx,1,none⟩=some (.slice A2 i c2):=by rw [hbxk.cell];rfl
    have zk0:=hbxk.frozen 0;have zk1:=hbxk.frozen 1;clear x0 x1 z0 z1;obtain ⟨l0,l1,l2,l3,m0,m1,m2,m3⟩:=hbl.four
    cases gk with
    | zero =>
     obtain rfl:k=i:=by omega
     have t2:decide ((k:Int) < (k:Int))=false:=by simp
     have hd0:Hid (Zl AQ k k k=dQ AQ k):=Za rfl
     by_cases hp:0 < dQ AQ k
     case neg =>
      have hn0:Hid (¬ posP AQ n):=Za (fun hp9=>hp (hp9 k hin));have t4:decide ((0:Int) < Zbo (Zl AQ k k k).num 0)=false:=decide_eq_false (fun h=>hp (by rw [<- hd0.out];exact num_pos0.1 (cmpZ_pos0.1 h)));replace hp:=Za hp;replace hFo:=Za hFo;replace hown:=Za hown;replace hK3:=Za hK3;replace hbl:=Za hbl;clear hbxk;go_wp2_with fail;refine (Zgc ln lA lk lc lm lB lj ld _ wk hl.out).mono ?_;rintro e w5 ⟨rfl,hb5⟩;go_wp2_with fail;refine (Zbl 8 w5).mono ?_;rintro e w6 ⟨rfl,rfl⟩;go_wp2_with fail;refine ⟨rfl,?_,.inr ⟨hn0.out,rfl⟩⟩;have h1:=hBwr.out.trans ((hBk.out.trans (hb5.mono hBk.out.size)).mono (by omega));rw [hgx.out];exact h1
     have hpos2:Hid (posP AQ (k+1)):=Za (fun t ht=>by
      rcases Nat.lt_or_ge t k with h1 | h1
      ·exact hpos.out t h1
      ·rw [show t=k by omega];exact hp)
     have t4:decide ((0:Int) < Zbo (Zl AQ k k k).num 0)=true:=decide_eq_true (cmpZ_pos0.2 (num_pos0.2 (by rw [hd0.out];exact hp)));replace hp:=Za hp;replace hFo:=Za hFo;replace hown:=Za hown;replace hK3:=Za hK3;replace hbl:=Za hbl;clear hbxk;go_wp2_with fail;refine (Zgc ln lA lk lc lm lB lj ld _ wk hl.out).mono ?_;rintro e w5 ⟨rfl,hb5⟩;go_wp2_with fail;refine (Zcu 8 w5).mono ?_;rintro e w6 ⟨rfl,rfl⟩;have hBi5:Below wi.heap.size wi w6:=hBk.out.trans (hb5.mono hBk.out.size);have hE0:EnvF 92 99 94 w6 W0.heap.size W2.heap.size gl gx (.slice A1 k c1) (.slice A2 k c2) (.slice A1 k c1) (.slice A2 k c2) (.slice Ao k co) rs (Zfs AQ k) (dsL AQ k) (Zhc AQ k k) ln lA lk lc lm lB lj ld (dQ AQ k):=⟨hFM.out.kept hBi5,hown.out.kept hb5,Zc hb5 hbl.out,hl.out.below hb5,Zc hBi5 hbx.out⟩;have hK9:Hid (Kept (fun k=>k=gx) W0 w6):=Za (hK.out.below hBi5)
     have hgxb:gx < W0.heap.size:=by omega
     have hW2g:Hid (gl < W2.heap.size):=Za (by omega);have hv2g:Hid (∀ k',(Value.slice A2 k c2).ownBlock=some k'->k' < gl):=Za (fun k' e=>by have:=hFM.out.2.1.blt k' e;omega);have hrsg:Hid (∀ s ∈ rs,∀ k',s.val.ownBlock=some k'->k' < W2.heap.size):=Za (fun s hs k' e=>by have:=hFM.out.rlt s hs k' e;omega)
     have hrl:(rs).length=k:=by rw [hFM.out.1.2.1,Zcg]
     have hlen1:rs.length+1 <= 1000:=by omega
     have hlen2:(dsL AQ k).length+1 <= 1000:=by rw [Zds];omega
     obtain ⟨xk0',xk1'⟩:=hE0.cells;replace hE0:=Za hE0;clear hb5 hBi5 xk0 xk1 zk0 zk1 l0 l1 l2 l3 m0 m1 m2 m3;go_wp2_with fail;obtain ⟨X0,hX0⟩:∃ X,w6.drew=X:=⟨_,rfl⟩
     have hBX0:Below w6.heap.size w6 X0:=by rw [<- hX0];exact Zi (Below.refl _ _) 1
     have hE:=hE0.out.below hBX0;have mKX:Kept (fun k=>k=gx) W0 X0:=hK9.out.below hBX0
     have hS0:w6.drew.cell? ⟨gx,0,none⟩=some (.slice A1 k c1)/\w6.drew.cell? ⟨gx,1,none⟩=some (.slice A2 k c2):=by rw [hX0];exact hE.cells
     refine Z8 [11,13] (fun wx=>wx.cell? ⟨gx,0,none⟩=some (.slice A1 k c1)/\wx.cell? ⟨gx,1,none⟩=some (.slice A2 k c2)) hmx hS0 (fun hxs9=>?_);refine Zu5 5 [0,1,2,5,6] rfl (by kernel_rfl) hS0 ?_
     iterate 5 (refine tk1 (v:=?_) rfl (Or.inl ⟨by kernel_rfl,?_⟩) ?_;rotate_left;(· intro W2 hSw;(try dsimp only at hSw);go_simp;try with_reducible rfl);try simp only [Act.put,putL_a,putL_z,putL_s,putG_a,putG_s,putG_z])
     refine tk0 ?_;rw [hX0];clear hS0 hxs9 hBX0 hX0;have hbb:Hid (W0.heap.size <= W2.heap.size):=Za (by omega);refine Zcp (i:=3) (j:=7) rfl rfl (by kernel_rfl) (fun K hK=>?_) (fun K hK=>?_)
     ·obtain ⟨Y1,hY1⟩:∃ Y,X0.alloc (.cells #[.slice Ao k co] 92)=Y:=⟨_,rfl⟩
      obtain ⟨ga2,hga2⟩:∃ g,X0.heap.size=g:=⟨_,rfl⟩
      have hBY1:Below X0.heap.size X0 Y1:=by rw [<- hY1];exact (Below.refl _ _).alloc (Nat.le_refl _) _
      have hbl3:Blk Y1 ga2 92 #[.slice Ao k co]:=by rw [<- hY1,<- hga2];exact Blk.new _ _ _
      have hEY1:=hE.below hBY1;have mKY1:=mKX.below hBY1;go_simp;(try rw [hY1]);(try rw [hga2]);refine hK.out _ _ (fun _=>hEY1.cells) ?_;clear hK K hY1 hga2
      try simp only [Act.put,putL_a,putL_z,putL_s]
      refine Zcp (i:=4) (j:=7) rfl rfl (by kernel_rfl) (fun K hK=>?_) (fun K hK=>?_)
      ·rw [if_pos (by rfl)]
       refine Zbh _ (.tmp 90) (.tmp 92) 91 rfl W0.heap.size 92 iS Tryz.underlying91 ki kz0 kz1 kz2 (.slice A1 k c1) rs rfl hEY1.1.1.1 _ (some ⟨ga2,0,none⟩) 1 1 [⟨Ao,k,co⟩] rfl (Ze8 hbl3) rfl hlen1 mKY1.size ?_;intro vY4 Y4 hRY4 hgY4 hkY4;have hEY4:=hEY1.app hts (r:=⟨Ao,k,co⟩) rfl hbb.out hrsg.out (fun k' e=>Nat.lt_trans (hv2g.out k' e) hW2g.out) hgxb hRY4 hgY4 hkY4;have mKY4:=Kept.grownC mKY1 hgY4 (fun k' hk=>hEY1.1.1.1.row_ge k' hk);refine hK.out _ _ (fun _=>hEY4.cells) ?_;clear hK K
       try simp only [Act.put,putL_a,putL_z,putL_s]
       refine Zu4 1 [10] rfl (by kernel_rfl) hEY4.cells ?_
       (refine tk1 (v:=?_) rfl (Or.inl ⟨by kernel_rfl,?_⟩) ?_;rotate_left;(· intro W2 _;go_simp;try with_reducible rfl);try simp only [Act.put,putL_a,putL_z,putL_s,putG_a,putG_s,putG_z])
       refine tk0 ?_;refine Ze (i:=7) rfl (by kernel_rfl) (fun K hK=>?_);obtain ⟨r5a,r5b,r5c,r5d⟩:=hEY4.left;go_simp;refine hK.out _ _ (fun _=>hEY4.cells) ?_;clear hK K r5a r5b r5c r5d
       try simp only [Act.put,putL_a,putL_z,putL_s]
       refine Ze (i:=8) rfl (by kernel_rfl) (fun K hK=>?_);obtain ⟨Y6,hY6⟩:∃ Y,Y4.alloc (.cells #[.bool ln,.slice lA lk lc,.bool lm,.slice lB lj ld] 99)=Y:=⟨_,rfl⟩;obtain ⟨ga7,hga7⟩:∃ g,Y4.heap.size=g:=⟨_,rfl⟩
       have hBY6:Below Y4.heap.size Y4 Y6:=by rw [<- hY6];exact (Below.refl _ _).alloc (Nat.le_refl _) _
       have hbl8:Blk Y6 ga7 99 #[.bool ln,.slice lA lk lc,.bool lm,.slice lB lj ld]:=by rw [<- hY6,<- hga7];exact Blk.new _ _ _
       have hEY6:=hEY4.below hBY6;have mKY6:=mKY4.below hBY6;go_simp;(try rw [hY6]);(try rw [hga7]);refine hK.out _ _ (fun _=>hEY6.cells) ?_;clear hK K hY6 hga7
       try simp only [Act.put,putL_a,putL_z,putL_s]
       refine Ze (i:=9) rfl (by kernel_rfl) (fun K hK=>?_);rw [if_pos (by rfl)];refine Zaf _ (.tmp 95) (.tmp 97) 92 rfl W0.heap.size 99 iN Tryz.underlying92 hi hz0 hz1 hz2 (.slice A2 k c2) _ rfl hEY6.1.2.1 _ (some ⟨ga7,0,none⟩) 1 1 [⟨ln,lA,lk,lc,lm,lB,lj,ld,dQ AQ k⟩] rfl (Zbm _ hbl8) rfl (by intro e he;rw [List.mem_singleton] at he;subst he;exact hEY6.2.2.1) hlen2 mKY6.size ?_;intro vY9 Y9 hPY9 hgY9 hkY9 hwY9;obtain ⟨f1,f3⟩:=hEY6.app hts hgxb hPY9 hgY9 hkY9 hwY9;have mKY9:=Kept.grownC mKY6 hgY9 (fun k' hk=>hEY6.1.2.1.row_ge k' hk);refine hK.out _ _ (fun _=>⟨by rw [f3.cell];rfl,by rw [f3.cell];rfl⟩) ?_;clear hK K
       try simp only [Act.put,putL_a,putL_z,putL_s]
       obtain ⟨a7,a9,e7,-⟩:=f1.1.mflA;obtain ⟨b1,b3,e8,-⟩:=f1.2.1.fl;rw [<- Zbn,Zcg] at e7;subst e7
       obtain rfl:vY9=.slice b1 (k+1) b3:=by rw [e8];congr 1;simp [Zds]
       clear e8;have f6:Kept (fun k=>k=gx) Y9 ((Y9.setCell ⟨gx,0,none⟩ (.slice a7 (k+1) a9)).setCell ⟨gx,1,none⟩ (.slice b1 (k+1) b3)):=Kept.set_ (G:=fun k=>k=gx) (Kept.set_ (G:=fun k=>k=gx) (Kept.refl _ _) (p:=⟨gx,0,none⟩) (.inl rfl) _) (p:=⟨gx,1,none⟩) (.inl rfl) _;have f5:Blk (Y9.setCell ⟨gx,0,none⟩ (.slice a7 (k+1) a9)) gx 94 #[.slice a7 (k+1) a9,.slice A2 k c2]:=f3.set_ 0 _;have f7:Blk ((Y9.setCell ⟨gx,0,none⟩ (.slice a7 (k+1) a9)).setCell ⟨gx,1,none⟩ (.slice b1 (k+1) b3)) gx 94 #[.slice a7 (k+1) a9,.slice b1 (k+1) b3]:=f5.set_ 1 _;have f8:=f1.box f3 (Zdc _ _ _ _ _ _) hgxb f6
       have u0:Y9.cell? ⟨gx,0,none⟩=some (.slice A1 k c1):=by rw [f3.cell];rfl
       have uz0:=f3.frozen 0
       have u1:(Y9.setCell ⟨gx,0,none⟩ (.slice a7 (k+1) a9)).cell? ⟨gx,1,none⟩=some (.slice A2 k c2):=by rw [f5.cell];rfl
       have uz1:=f5.frozen 1;have mKZ:=mKY9.trans f6;obtain ⟨Z9,hZ9⟩:∃ Z,((Y9.setCell ⟨gx,0,none⟩ (.slice a7 (k+1) a9)).setCell ⟨gx,1,none⟩ (.slice b1 (k+1) b3))=Z:=⟨_,rfl⟩;rw [hZ9] at f7 f8 mKZ;replace f7:=Za f7;replace f8:=Za f8;replace mKZ:=Za mKZ;clear f1 f3 f6;refine Zp (i:=11) rfl (by kernel_rfl) (by kernel_rfl) (fun K hK=>?_);go_simp;refine hK.out _ _ ?_;clear hK K
       try simp only [Act.put,putL_a,putL_z,putL_s]
       refine Zs (i:=12) (v:=?v47) rfl (by kernel_rfl) (by kernel_rfl) (by kernel_rfl) (by kernel_rfl) (Or.inl ⟨by kernel_rfl,?hy47⟩) (fun hno=>absurd hno (by decide)) ?rest47
       case hy47=>(intro W2 _;go_simp;try with_reducible rfl)
       try simp only [Act.put,putL_a,putL_z,putL_s,putG_a,putG_s,putG_z]
       refine Zp (i:=13) rfl (by kernel_rfl) (by kernel_rfl) (fun K hK=>?_);go_simp;(try rw [hZ9]);refine hK.out _ _ ?_;clear hK K
       try simp only [Act.put,putL_a,putL_z,putL_s]
       refine Zj (by kernel_rfl) ?_ _;refine OnlyNormal.normal ?_;clear hZ9 u0 uz0 u1 uz1 f5;go_wp2_with fail
       go_roundg (n - (k+1))
       case measure=>omega
       case rel=>exact ⟨k+1,_,_,rs ++ [⟨Ao,k,co⟩],by omega,by go_num,f7.out,by rw [Zbn,Ze7];exact f8.out,hpos2,mKZ.out⟩
      ·obtain ⟨r10a,r10b,r10c,r10d⟩:=hEY1.left
       go_simp;refine hK.out _ _ (fun _=>hEY1.cells) ?_;clear hK K r10a r10b r10c r10d
       try simp only [Act.put,putL_a,putL_z,putL_s]
       refine Zcp (i:=4) (j:=8) rfl rfl (by kernel_rfl) (fun K hK=>?_) (fun K hK=>?_)
       ·rw [if_pos (by rfl)]
        refine Zbh _ (.tmp 90) (.tmp 92) 91 rfl W0.heap.size 92 iS Tryz.underlying91 ki kz0 kz1 kz2 (.slice A1 k c1) rs rfl hEY1.1.1.1 _ (some ⟨ga2,0,none⟩) 1 1 [⟨Ao,k,co⟩] rfl (Ze8 hbl3) rfl hlen1 mKY1.size ?_;intro vY11 Y11 hRY11 hgY11 hkY11;have hEY11:=hEY1.app hts (r:=⟨Ao,k,co⟩) rfl hbb.out hrsg.out (fun k' e=>Nat.lt_trans (hv2g.out k' e) hW2g.out) hgxb hRY11 hgY11 hkY11;have mKY11:=Kept.grownC mKY1 hgY11 (fun k' hk=>hEY1.1.1.1.row_ge k' hk);refine hK.out _ _ (fun _=>hEY11.cells) ?_;clear hK K
        try simp only [Act.put,putL_a,putL_z,putL_s]
        refine Zu4 1 [10] rfl (by kernel_rfl) hEY11.cells ?_
        (refine tk1 (v:=?_) rfl (Or.inl ⟨by kernel_rfl,?_⟩) ?_;rotate_left;(· intro W2 _;go_simp;try with_reducible rfl);try simp only [Act.put,putL_a,putL_z,putL_s,putG_a,putG_s,putG_z])
        refine tk0 ?_;refine Ze (i:=8) rfl (by kernel_rfl) (fun K hK=>?_);obtain ⟨Y12,hY12⟩:∃ Y,Y11.alloc (.cells #[.bool ln,.slice lA lk lc,.bool lm,.slice lB lj ld] 99)=Y:=⟨_,rfl⟩;obtain ⟨ga13,hga13⟩:∃ g,Y11.heap.size=g:=⟨_,rfl⟩
        have hBY12:Below Y11.heap.size Y11 Y12:=by rw [<- hY12];exact (Below.refl _ _).alloc (Nat.le_refl _) _
        have hbl14:Blk Y12 ga13 99 #[.bool ln,.slice lA lk lc,.bool lm,.slice lB lj ld]:=by rw [<- hY12,<- hga13];exact Blk.new _ _ _
        have hEY12:=hEY11.below hBY12;have mKY12:=mKY11.below hBY12;go_simp;(try rw [hY12]);(try rw [hga13]);refine hK.out _ _ (fun _=>hEY12.cells) ?_;clear hK K hY12 hga13
        try simp only [Act.put,putL_a,putL_z,putL_s]
        refine Ze (i:=9) rfl (by kernel_rfl) (fun K hK=>?_);rw [if_pos (by rfl)];refine Zaf _ (.tmp 95) (.tmp 97) 92 rfl W0.heap.size 99 iN Tryz.underlying92 hi hz0 hz1 hz2 (.slice A2 k c2) _ rfl hEY12.1.2.1 _ (some ⟨ga13,0,none⟩) 1 1 [⟨ln,lA,lk,lc,lm,lB,lj,ld,dQ AQ k⟩] rfl (Zbm _ hbl14) rfl (by intro e he;rw [List.mem_singleton] at he;subst he;exact hEY12.2.2.1) hlen2 mKY12.size ?_;intro vY15 Y15 hPY15 hgY15 hkY15 hwY15;obtain ⟨f1,f3⟩:=hEY12.app hts hgxb hPY15 hgY15 hkY15 hwY15;have mKY15:=Kept.grownC mKY12 hgY15 (fun k' hk=>hEY12.1.2.1.row_ge k' hk);refine hK.out _ _ (fun _=>⟨by rw [f3.cell];rfl,by rw [f3.cell];rfl⟩) ?_;clear hK K
        try simp only [Act.put,putL_a,putL_z,putL_s]
        obtain ⟨a7,a9,e7,-⟩:=f1.1.mflA;obtain ⟨b1,b3,e8,-⟩:=f1.2.1.fl;rw [<- Zbn,Zcg] at e7;subst e7
        obtain rfl:vY15=.slice b1 (k+1) b3:=by rw [e8];congr 1;simp [Zds]
        clear e8;have f6:Kept (fun k=>k=gx) Y15 ((Y15.setCell ⟨gx,0,none⟩ (.slice a7 (k+1) a9)).setCell ⟨gx,1,none⟩ (.slice b1 (k+1) b3)):=Kept.set_ (G:=fun k=>k=gx) (Kept.set_ (G:=fun k=>k=gx) (Kept.refl _ _) (p:=⟨gx,0,none⟩) (.inl rfl) _) (p:=⟨gx,1,none⟩) (.inl rfl) _;have f5:Blk (Y15.setCell ⟨gx,0,none⟩ (.slice a7 (k+1) a9)) gx 94 #[.slice a7 (k+1) a9,.slice A2 k c2]:=f3.set_ 0 _;have f7:Blk ((Y15.setCell ⟨gx,0,none⟩ (.slice a7 (k+1) a9)).setCell ⟨gx,1,none⟩ (.slice b1 (k+1) b3)) gx 94 #[.slice a7 (k+1) a9,.slice b1 (k+1) b3]:=f5.set_ 1 _;have f8:=f1.box f3 (Zdc _ _ _ _ _ _) hgxb f6
        have u0:Y15.cell? ⟨gx,0,none⟩=some (.slice A1 k c1):=by rw [f3.cell];rfl
        have uz0:=f3.frozen 0
        have u1:(Y15.setCell ⟨gx,0,none⟩ (.slice a7 (k+1) a9)).cell? ⟨gx,1,none⟩=some (.slice A2 k c2):=by rw [f5.cell];rfl
        have uz1:=f5.frozen 1;have mKZ:=mKY15.trans f6;obtain ⟨Z9,hZ9⟩:∃ Z,((Y15.setCell ⟨gx,0,none⟩ (.slice a7 (k+1) a9)).setCell ⟨gx,1,none⟩ (.slice b1 (k+1) b3))=Z:=⟨_,rfl⟩;rw [hZ9] at f7 f8 mKZ;replace f7:=Za f7;replace f8:=Za f8;replace mKZ:=Za mKZ;clear f1 f3 f6;refine Zp (i:=11) rfl (by kernel_rfl) (by kernel_rfl) (fun K hK=>?_);go_simp;refine hK.out _ _ ?_;clear hK K
        try simp only [Act.put,putL_a,putL_z,putL_s]
        refine Zs (i:=12) (v:=?v49) rfl (by kernel_rfl) (by kernel_rfl) (by kernel_rfl) (by kernel_rfl) (Or.inl ⟨by kernel_rfl,?hy49⟩) (fun hno=>absurd hno (by decide)) ?rest49
        case hy49=>(intro W2 _;go_simp;try with_reducible rfl)
        try simp only [Act.put,putL_a,putL_z,putL_s,putG_a,putG_s,putG_z]
        refine Zp (i:=13) rfl (by kernel_rfl) (by kernel_rfl) (fun K hK=>?_);go_simp;(try rw [hZ9]);refine hK.out _ _ ?_;clear hK K
        try simp only [Act.put,putL_a,putL_z,putL_s]
        refine Zj (by kernel_rfl) ?_ _;refine OnlyNormal.normal ?_;clear hZ9 u0 uz0 u1 uz1 f5;go_wp2_with fail
        go_roundg (n - (k+1))
        case measure=>omega
        case rel=>exact ⟨k+1,_,_,rs ++ [⟨Ao,k,co⟩],by omega,by go_num,f7.out,by rw [Zbn,Ze7];exact f8.out,hpos2,mKZ.out⟩
       ·obtain ⟨Y16,hY16⟩:∃ Y,Y1.alloc (.cells #[.bool ln,.slice lA lk lc,.bool lm,.slice lB lj ld] 99)=Y:=⟨_,rfl⟩
        obtain ⟨ga17,hga17⟩:∃ g,Y1.heap.size=g:=⟨_,rfl⟩
        have hBY16:Below Y1.heap.size Y1 Y16:=by rw [<- hY16];exact (Below.refl _ _).alloc (Nat.le_refl _) _
        have hbl18:Blk Y16 ga17 99 #[.bool ln,.slice lA lk lc,.bool lm,.slice lB lj ld]:=by rw [<- hY16,<- hga17];exact Blk.new _ _ _
        have hEY16:=hEY1.below hBY16;have mKY16:=mKY1.below hBY16;have hbl3Y16:=Zc hBY16 hbl3;go_simp;(try rw [hY16]);(try rw [hga17]);refine hK.out _ _ (fun _=>hEY16.cells) ?_;clear hK K hY16 hga17
        try simp only [Act.put,putL_a,putL_z,putL_s]
        refine Ze (i:=4) rfl (by kernel_rfl) (fun K hK=>?_);rw [if_pos (by rfl)];refine Zbh _ (.tmp 90) (.tmp 92) 91 rfl W0.heap.size 92 iS Tryz.underlying91 ki kz0 kz1 kz2 (.slice A1 k c1) rs rfl hEY16.1.1.1 _ (some ⟨ga2,0,none⟩) 1 1 [⟨Ao,k,co⟩] rfl (Ze8 hbl3Y16) rfl hlen1 mKY16.size ?_;intro vY19 Y19 hRY19 hgY19 hkY19;have hEY19:=hEY16.app hts (r:=⟨Ao,k,co⟩) rfl hbb.out hrsg.out (fun k' e=>Nat.lt_trans (hv2g.out k' e) hW2g.out) hgxb hRY19 hgY19 hkY19;have mKY19:=Kept.grownC mKY16 hgY19 (fun k' hk=>hEY16.1.1.1.row_ge k' hk);have hbl18Y19:=hEY16.far hts hgY19 hbl18;refine hK.out _ _ (fun _=>hEY19.cells) ?_;clear hK K
        try simp only [Act.put,putL_a,putL_z,putL_s]
        refine Zu4 1 [10] rfl (by kernel_rfl) hEY19.cells ?_
        (refine tk1 (v:=?_) rfl (Or.inl ⟨by kernel_rfl,?_⟩) ?_;rotate_left;(· intro W2 _;go_simp;try with_reducible rfl);try simp only [Act.put,putL_a,putL_z,putL_s,putG_a,putG_s,putG_z])
        refine tk0 ?_;refine Ze (i:=9) rfl (by kernel_rfl) (fun K hK=>?_);rw [if_pos (by rfl)];refine Zaf _ (.tmp 95) (.tmp 97) 92 rfl W0.heap.size 99 iN Tryz.underlying92 hi hz0 hz1 hz2 (.slice A2 k c2) _ rfl hEY19.1.2.1 _ (some ⟨ga17,0,none⟩) 1 1 [⟨ln,lA,lk,lc,lm,lB,lj,ld,dQ AQ k⟩] rfl (Zbm _ hbl18Y19) rfl (by intro e he;rw [List.mem_singleton] at he;subst he;exact hEY19.2.2.1) hlen2 mKY19.size ?_;intro vY20 Y20 hPY20 hgY20 hkY20 hwY20;obtain ⟨f1,f3⟩:=hEY19.app hts hgxb hPY20 hgY20 hkY20 hwY20;have mKY20:=Kept.grownC mKY19 hgY20 (fun k' hk=>hEY19.1.2.1.row_ge k' hk);refine hK.out _ _ (fun _=>⟨by rw [f3.cell];rfl,by rw [f3.cell];rfl⟩) ?_;clear hK K
        try simp only [Act.put,putL_a,putL_z,putL_s]
        obtain ⟨a7,a9,e7,-⟩:=f1.1.mflA;obtain ⟨b1,b3,e8,-⟩:=f1.2.1.fl;rw [<- Zbn,Zcg] at e7;subst e7
        obtain rfl:vY20=.slice b1 (k+1) b3:=by rw [e8];congr 1;simp [Zds]
        clear e8;have f6:Kept (fun k=>k=gx) Y20 ((Y20.setCell ⟨gx,0,none⟩ (.slice a7 (k+1) a9)).setCell ⟨gx,1,none⟩ (.slice b1 (k+1) b3)):=Kept.set_ (G:=fun k=>k=gx) (Kept.set_ (G:=fun k=>k=gx) (Kept.refl _ _) (p:=⟨gx,0,none⟩) (.inl rfl) _) (p:=⟨gx,1,none⟩) (.inl rfl) _;have f5:Blk (Y20.setCell ⟨gx,0,none⟩ (.slice a7 (k+1) a9)) gx 94 #[.slice a7 (k+1) a9,.slice A2 k c2]:=f3.set_ 0 _;have f7:Blk ((Y20.setCell ⟨gx,0,none⟩ (.slice a7 (k+1) a9)).setCell ⟨gx,1,none⟩ (.slice b1 (k+1) b3)) gx 94 #[.slice a7 (k+1) a9,.slice b1 (k+1) b3]:=f5.set_ 1 _;have f8:=f1.box f3 (Zdc _ _ _ _ _ _) hgxb f6
        have u0:Y20.cell? ⟨gx,0,none⟩=some (.slice A1 k c1):=by rw [f3.cell];rfl
        have uz0:=f3.frozen 0
        have u1:(Y20.setCell ⟨gx,0,none⟩ (.slice a7 (k+1) a9)).cell? ⟨gx,1,none⟩=some (.slice A2 k c2):=by rw [f5.cell];rfl
        have uz1:=f5.frozen 1;have mKZ:=mKY20.trans f6;obtain ⟨Z9,hZ9⟩:∃ Z,((Y20.setCell ⟨gx,0,none⟩ (.slice a7 (k+1) a9)).setCell ⟨gx,1,none⟩ (.slice b1 (k+1) b3))=Z:=⟨_,rfl⟩;rw [hZ9] at f7 f8 mKZ;replace f7:=Za f7;replace f8:=Za f8;replace mKZ:=Za mKZ;clear f1 f3 f6;refine Zp (i:=11) rfl (by kernel_rfl) (by kernel_rfl) (fun K hK=>?_);go_simp;refine hK.out _ _ ?_;clear hK K
        try simp only [Act.put,putL_a,putL_z,putL_s]
        refine Zs (i:=12) (v:=?v51) rfl (by kernel_rfl) (by kernel_rfl) (by kernel_rfl) (by kernel_rfl) (Or.inl ⟨by kernel_rfl,?hy51⟩) (fun hno=>absurd hno (by decide)) ?rest51
        case hy51=>(intro W2 _;go_simp;try with_reducible rfl)
        try simp only [Act.put,putL_a,putL_z,putL_s,putG_a,putG_s,putG_z]
        refine Zp (i:=13) rfl (by kernel_rfl) (by kernel_rfl) (fun K hK=>?_);go_simp;(try rw [hZ9]);refine hK.out _ _ ?_;clear hK K
        try simp only [Act.put,putL_a,putL_z,putL_s]
        refine Zj (by kernel_rfl) ?_ _;refine OnlyNormal.normal ?_;clear hZ9 u0 uz0 u1 uz1 f5;go_wp2_with fail
        go_roundg (n - (k+1))
        case measure=>omega
        case rel=>exact ⟨k+1,_,_,rs ++ [⟨Ao,k,co⟩],by omega,by go_num,f7.out,by rw [Zbn,Ze7];exact f8.out,hpos2,mKZ.out⟩
     ·obtain ⟨r21a,r21b,r21c,r21d⟩:=hE.left
      go_simp;refine hK.out _ _ (fun _=>hE.cells) ?_;clear hK K r21a r21b r21c r21d
      try simp only [Act.put,putL_a,putL_z,putL_s]
      refine Zcp (i:=3) (j:=8) rfl rfl (by kernel_rfl) (fun K hK=>?_) (fun K hK=>?_)
      ·obtain ⟨Y22,hY22⟩:∃ Y,X0.alloc (.cells #[.slice Ao k co] 92)=Y:=⟨_,rfl⟩
       obtain ⟨ga23,hga23⟩:∃ g,X0.heap.size=g:=⟨_,rfl⟩
       have hBY22:Below X0.heap.size X0 Y22:=by rw [<- hY22];exact (Below.refl _ _).alloc (Nat.le_refl _) _
       have hbl24:Blk Y22 ga23 92 #[.slice Ao k co]:=by rw [<- hY22,<- hga23];exact Blk.new _ _ _
       have hEY22:=hE.below hBY22;have mKY22:=mKX.below hBY22;go_simp;(try rw [hY22]);(try rw [hga23]);refine hK.out _ _ (fun _=>hEY22.cells) ?_;clear hK K hY22 hga23
       try simp only [Act.put,putL_a,putL_z,putL_s]
       refine Zcp (i:=4) (j:=8) rfl rfl (by kernel_rfl) (fun K hK=>?_) (fun K hK=>?_)
       ·rw [if_pos (by rfl)]
        refine Zbh _ (.tmp 90) (.tmp 92) 91 rfl W0.heap.size 92 iS Tryz.underlying91 ki kz0 kz1 kz2 (.slice A1 k c1) rs rfl hEY22.1.1.1 _ (some ⟨ga23,0,none⟩) 1 1 [⟨Ao,k,co⟩] rfl (Ze8 hbl24) rfl hlen1 mKY22.size ?_;intro vY25 Y25 hRY25 hgY25 hkY25;have hEY25:=hEY22.app hts (r:=⟨Ao,k,co⟩) rfl hbb.out hrsg.out (fun k' e=>Nat.lt_trans (hv2g.out k' e) hW2g.out) hgxb hRY25 hgY25 hkY25;have mKY25:=Kept.grownC mKY22 hgY25 (fun k' hk=>hEY22.1.1.1.row_ge k' hk);refine hK.out _ _ (fun _=>hEY25.cells) ?_;clear hK K
        try simp only [Act.put,putL_a,putL_z,putL_s]
        refine Zu4 1 [10] rfl (by kernel_rfl) hEY25.cells ?_
        (refine tk1 (v:=?_) rfl (Or.inl ⟨by kernel_rfl,?_⟩) ?_;rotate_left;(· intro W2 _;go_simp;try with_reducible rfl);try simp only [Act.put,putL_a,putL_z,putL_s,putG_a,putG_s,putG_z])
        refine tk0 ?_;refine Ze (i:=8) rfl (by kernel_rfl) (fun K hK=>?_);obtain ⟨Y26,hY26⟩:∃ Y,Y25.alloc (.cells #[.bool ln,.slice lA lk lc,.bool lm,.slice lB lj ld] 99)=Y:=⟨_,rfl⟩;obtain ⟨ga27,hga27⟩:∃ g,Y25.heap.size=g:=⟨_,rfl⟩
        have hBY26:Below Y25.heap.size Y25 Y26:=by rw [<- hY26];exact (Below.refl _ _).alloc (Nat.le_refl _) _
        have hbl28:Blk Y26 ga27 99 #[.bool ln,.slice lA lk lc,.bool lm,.slice lB lj ld]:=by rw [<- hY26,<- hga27];exact Blk.new _ _ _
        have hEY26:=hEY25.below hBY26;have mKY26:=mKY25.below hBY26;go_simp;(try rw [hY26]);(try rw [hga27]);refine hK.out _ _ (fun _=>hEY26.cells) ?_;clear hK K hY26 hga27
        try simp only [Act.put,putL_a,putL_z,putL_s]
        refine Ze (i:=9) rfl (by kernel_rfl) (fun K hK=>?_);rw [if_pos (by rfl)];refine Zaf _ (.tmp 95) (.tmp 97) 92 rfl W0.heap.size 99 iN Tryz.underlying92 hi hz0 hz1 hz2 (.slice A2 k c2) _ rfl hEY26.1.2.1 _ (some ⟨ga27,0,none⟩) 1 1 [⟨ln,lA,lk,lc,lm,lB,lj,ld,dQ AQ k⟩] rfl (Zbm _ hbl28) rfl (by intro e he;rw [List.mem_singleton] at he;subst he;exact hEY26.2.2.1) hlen2 mKY26.size ?_;intro vY29 Y29 hPY29 hgY29 hkY29 hwY29;obtain ⟨f1,f3⟩:=hEY26.app hts hgxb hPY29 hgY29 hkY29 hwY29;have mKY29:=Kept.grownC mKY26 hgY29 (fun k' hk=>hEY26.1.2.1.row_ge k' hk);refine hK.out _ _ (fun _=>⟨by rw [f3.cell];rfl,by rw [f3.cell];rfl⟩) ?_;clear hK K
        try simp only [Act.put,putL_a,putL_z,putL_s]
        obtain ⟨a7,a9,e7,-⟩:=f1.1.mflA;obtain ⟨b1,b3,e8,-⟩:=f1.2.1.fl;rw [<- Zbn,Zcg] at e7;subst e7
        obtain rfl:vY29=.slice b1 (k+1) b3:=by rw [e8];congr 1;simp [Zds]
        clear e8;have f6:Kept (fun k=>k=gx) Y29 ((Y29.setCell ⟨gx,0,none⟩ (.slice a7 (k+1) a9)).setCell ⟨gx,1,none⟩ (.slice b1 (k+1) b3)):=Kept.set_ (G:=fun k=>k=gx) (Kept.set_ (G:=fun k=>k=gx) (Kept.refl _ _) (p:=⟨gx,0,none⟩) (.inl rfl) _) (p:=⟨gx,1,none⟩) (.inl rfl) _;have f5:Blk (Y29.setCell ⟨gx,0,none⟩ (.slice a7 (k+1) a9)) gx 94 #[.slice a7 (k+1) a9,.slice A2 k c2]:=f3.set_ 0 _;have f7:Blk ((Y29.setCell ⟨gx,0,none⟩ (.slice a7 (k+1) a9)).setCell ⟨gx,1,none⟩ (.slice b1 (k+1) b3)) gx 94 #[.slice a7 (k+1) a9,.slice b1 (k+1) b3]:=f5.set_ 1 _;have f8:=f1.box f3 (Zdc _ _ _ _ _ _) hgxb f6
        have u0:Y29.cell? ⟨gx,0,none⟩=some (.slice A1 k c1):=by rw [f3.cell];rfl
        have uz0:=f3.frozen 0
        have u1:(Y29.setCell ⟨gx,0,none⟩ (.slice a7 (k+1) a9)).cell? ⟨gx,1,none⟩=some (.slice A2 k c2):=by rw [f5.cell];rfl
        have uz1:=f5.frozen 1;have mKZ:=mKY29.trans f6;obtain ⟨Z9,hZ9⟩:∃ Z,((Y29.setCell ⟨gx,0,none⟩ (.slice a7 (k+1) a9)).setCell ⟨gx,1,none⟩ (.slice b1 (k+1) b3))=Z:=⟨_,rfl⟩;rw [hZ9] at f7 f8 mKZ;replace f7:=Za f7;replace f8:=Za f8;replace mKZ:=Za mKZ;clear f1 f3 f6;refine Zp (i:=11) rfl (by kernel_rfl) (by kernel_rfl) (fun K hK=>?_);go_simp;refine hK.out _ _ ?_;clear hK K
        try simp only [Act.put,putL_a,putL_z,putL_s]
        refine Zs (i:=12) (v:=?v53) rfl (by kernel_rfl) (by kernel_rfl) (by kernel_rfl) (by kernel_rfl) (Or.inl ⟨by kernel_rfl,?hy53⟩) (fun hno=>absurd hno (by decide)) ?rest53
        case hy53=>(intro W2 _;go_simp;try with_reducible rfl)
        try simp only [Act.put,putL_a,putL_z,putL_s,putG_a,putG_s,putG_z]
        refine Zp (i:=13) rfl (by kernel_rfl) (by kernel_rfl) (fun K hK=>?_);go_simp;(try rw [hZ9]);refine hK.out _ _ ?_;clear hK K
        try simp only [Act.put,putL_a,putL_z,putL_s]
        refine Zj (by kernel_rfl) ?_ _;refine OnlyNormal.normal ?_;clear hZ9 u0 uz0 u1 uz1 f5;go_wp2_with fail
        go_roundg (n - (k+1))
        case measure=>omega
        case rel=>exact ⟨k+1,_,_,rs ++ [⟨Ao,k,co⟩],by omega,by go_num,f7.out,by rw [Zbn,Ze7];exact f8.out,hpos2,mKZ.out⟩
       ·obtain ⟨Y30,hY30⟩:∃ Y,Y22.alloc (.cells #[.bool ln,.slice lA lk lc,.bool lm,.slice lB lj ld] 99)=Y:=⟨_,rfl⟩
        obtain ⟨ga31,hga31⟩:∃ g,Y22.heap.size=g:=⟨_,rfl⟩
        have hBY30:Below Y22.heap.size Y22 Y30:=by rw [<- hY30];exact (Below.refl _ _).alloc (Nat.le_refl _) _
        have hbl32:Blk Y30 ga31 99 #[.bool ln,.slice lA lk lc,.bool lm,.slice lB lj ld]:=by rw [<- hY30,<- hga31];exact Blk.new _ _ _
        have hEY30:=hEY22.below hBY30;have mKY30:=mKY22.below hBY30;have hbl24Y30:=Zc hBY30 hbl24;go_simp;(try rw [hY30]);(try rw [hga31]);refine hK.out _ _ (fun _=>hEY30.cells) ?_;clear hK K hY30 hga31
        try simp only [Act.put,putL_a,putL_z,putL_s]
        refine Ze (i:=4) rfl (by kernel_rfl) (fun K hK=>?_);rw [if_pos (by rfl)];refine Zbh _ (.tmp 90) (.tmp 92) 91 rfl W0.heap.size 92 iS Tryz.underlying91 ki kz0 kz1 kz2 (.slice A1 k c1) rs rfl hEY30.1.1.1 _ (some ⟨ga23,0,none⟩) 1 1 [⟨Ao,k,co⟩] rfl (Ze8 hbl24Y30) rfl hlen1 mKY30.size ?_;intro vY33 Y33 hRY33 hgY33 hkY33;have hEY33:=hEY30.app hts (r:=⟨Ao,k,co⟩) rfl hbb.out hrsg.out (fun k' e=>Nat.lt_trans (hv2g.out k' e) hW2g.out) hgxb hRY33 hgY33 hkY33;have mKY33:=Kept.grownC mKY30 hgY33 (fun k' hk=>hEY30.1.1.1.row_ge k' hk);have hbl32Y33:=hEY30.far hts hgY33 hbl32;refine hK.out _ _ (fun _=>hEY33.cells) ?_;clear hK K
        try simp only [Act.put,putL_a,putL_z,putL_s]
        refine Zu4 1 [10] rfl (by kernel_rfl) hEY33.cells ?_
        (refine tk1 (v:=?_) rfl (Or.inl ⟨by kernel_rfl,?_⟩) ?_;rotate_left;(· intro W2 _;go_simp;try with_reducible rfl);try simp only [Act.put,putL_a,putL_z,putL_s,putG_a,putG_s,putG_z])
        refine tk0 ?_;refine Ze (i:=9) rfl (by kernel_rfl) (fun K hK=>?_);rw [if_pos (by rfl)];refine Zaf _ (.tmp 95) (.tmp 97) 92 rfl W0.heap.size 99 iN Tryz.underlying92 hi hz0 hz1 hz2 (.slice A2 k c2) _ rfl hEY33.1.2.1 _ (some ⟨ga31,0,none⟩) 1 1 [⟨ln,lA,lk,lc,lm,lB,lj,ld,dQ AQ k⟩] rfl (Zbm _ hbl32Y33) rfl (by intro e he;rw [List.mem_singleton] at he;subst he;exact hEY33.2.2.1) hlen2 mKY33.size ?_;intro vY34 Y34 hPY34 hgY34 hkY34 hwY34;obtain ⟨f1,f3⟩:=hEY33.app hts hgxb hPY34 hgY34 hkY34 hwY34;have mKY34:=Kept.grownC mKY33 hgY34 (fun k' hk=>hEY33.1.2.1.row_ge k' hk);refine hK.out _ _ (fun _=>⟨by rw [f3.cell];rfl,by rw [f3.cell];rfl⟩) ?_;clear hK K
        try simp only [Act.put,putL_a,putL_z,putL_s]
        obtain ⟨a7,a9,e7,-⟩:=f1.1.mflA;obtain ⟨b1,b3,e8,-⟩:=f1.2.1.fl;rw [<- Zbn,Zcg] at e7;subst e7
        obtain rfl:vY34=.slice b1 (k+1) b3:=by rw [e8];congr 1;simp [Zds]
        clear e8;have f6:Kept (fun k=>k=gx) Y34 ((Y34.setCell ⟨gx,0,none⟩ (.slice a7 (k+1) a9)).setCell ⟨gx,1,none⟩ (.slice b1 (k+1) b3)):=Kept.set_ (G:=fun k=>k=gx) (Kept.set_ (G:=fun k=>k=gx) (Kept.refl _ _) (p:=⟨gx,0,none⟩) (.inl rfl) _) (p:=⟨gx,1,none⟩) (.inl rfl) _;have f5:Blk (Y34.setCell ⟨gx,0,none⟩ (.slice a7 (k+1) a9)) gx 94 #[.slice a7 (k+1) a9,.slice A2 k c2]:=f3.set_ 0 _;have f7:Blk ((Y34.setCell ⟨gx,0,none⟩ (.slice a7 (k+1) a9)).setCell ⟨gx,1,none⟩ (.slice b1 (k+1) b3)) gx 94 #[.slice a7 (k+1) a9,.slice b1 (k+1) b3]:=f5.set_ 1 _;have f8:=f1.box f3 (Zdc _ _ _ _ _ _) hgxb f6
        have u0:Y34.cell? ⟨gx,0,none⟩=some (.slice A1 k c1):=by rw [f3.cell];rfl
        have uz0:=f3.frozen 0
        have u1:(Y34.setCell ⟨gx,0,none⟩ (.slice a7 (k+1) a9)).cell? ⟨gx,1,none⟩=some (.slice A2 k c2):=by rw [f5.cell];rfl
        have uz1:=f5.frozen 1;have mKZ:=mKY34.trans f6;obtain ⟨Z9,hZ9⟩:∃ Z,((Y34.setCell ⟨gx,0,none⟩ (.slice a7 (k+1) a9)).setCell ⟨gx,1,none⟩ (.slice b1 (k+1) b3))=Z:=⟨_,rfl⟩;rw [hZ9] at f7 f8 mKZ;replace f7:=Za f7;replace f8:=Za f8;replace mKZ:=Za mKZ;clear f1 f3 f6;refine Zp (i:=11) rfl (by kernel_rfl) (by kernel_rfl) (fun K hK=>?_);go_simp;refine hK.out _ _ ?_;clear hK K
        try simp only [Act.put,putL_a,putL_z,putL_s]
        refine Zs (i:=12) (v:=?v55) rfl (by kernel_rfl) (by kernel_rfl) (by kernel_rfl) (by kernel_rfl) (Or.inl ⟨by kernel_rfl,?hy55⟩) (fun hno=>absurd hno (by decide)) ?rest55
        case hy55=>(intro W2 _;go_simp;try with_reducible rfl)
        try simp only [Act.put,putL_a,putL_z,putL_s,putG_a,putG_s,putG_z]
        refine Zp (i:=13) rfl (by kernel_rfl) (by kernel_rfl) (fun K hK=>?_);go_simp;(try rw [hZ9]);refine hK.out _ _ ?_;clear hK K
        try simp only [Act.put,putL_a,putL_z,putL_s]
        refine Zj (by kernel_rfl) ?_ _;refine OnlyNormal.normal ?_;clear hZ9 u0 uz0 u1 uz1 f5;go_wp2_with fail
        go_roundg (n - (k+1))
        case measure=>omega
        case rel=>exact ⟨k+1,_,_,rs ++ [⟨Ao,k,co⟩],by omega,by go_num,f7.out,by rw [Zbn,Ze7];exact f8.out,hpos2,mKZ.out⟩
      ·obtain ⟨Y35,hY35⟩:∃ Y,X0.alloc (.cells #[.bool ln,.slice lA lk lc,.bool lm,.slice lB lj ld] 99)=Y:=⟨_,rfl⟩
       obtain ⟨ga36,hga36⟩:∃ g,X0.heap.size=g:=⟨_,rfl⟩
       have hBY35:Below X0.heap.size X0 Y35:=by rw [<- hY35];exact (Below.refl _ _).alloc (Nat.le_refl _) _
       have hbl37:Blk Y35 ga36 99 #[.bool ln,.slice lA lk lc,.bool lm,.slice lB lj ld]:=by rw [<- hY35,<- hga36];exact Blk.new _ _ _
       have hEY35:=hE.below hBY35;have mKY35:=mKX.below hBY35;go_simp;(try rw [hY35]);(try rw [hga36]);refine hK.out _ _ (fun _=>hEY35.cells) ?_;clear hK K hY35 hga36
       try simp only [Act.put,putL_a,putL_z,putL_s]
       refine Ze (i:=3) rfl (by kernel_rfl) (fun K hK=>?_);obtain ⟨Y38,hY38⟩:∃ Y,Y35.alloc (.cells #[.slice Ao k co] 92)=Y:=⟨_,rfl⟩;obtain ⟨ga39,hga39⟩:∃ g,Y35.heap.size=g:=⟨_,rfl⟩
       have hBY38:Below Y35.heap.size Y35 Y38:=by rw [<- hY38];exact (Below.refl _ _).alloc (Nat.le_refl _) _
       have hbl40:Blk Y38 ga39 92 #[.slice Ao k co]:=by rw [<- hY38,<- hga39];exact Blk.new _ _ _
       have hEY38:=hEY35.below hBY38;have mKY38:=mKY35.below hBY38;have hbl37Y38:=Zc hBY38 hbl37;go_simp;(try rw [hY38]);(try rw [hga39]);refine hK.out _ _ (fun _=>hEY38.cells) ?_;clear hK K hY38 hga39
       try simp only [Act.put,putL_a,putL_z,putL_s]
       refine Ze (i:=4) rfl (by kernel_rfl) (fun K hK=>?_);rw [if_pos (by rfl)];refine Zbh _ (.tmp 90) (.tmp 92) 91 rfl W0.heap.size 92 iS Tryz.underlying91 ki kz0 kz1 kz2 (.slice A1 k c1) rs rfl hEY38.1.1.1 _ (some ⟨ga39,0,none⟩) 1 1 [⟨Ao,k,co⟩] rfl (Ze8 hbl40) rfl hlen1 mKY38.size ?_;intro vY41 Y41 hRY41 hgY41 hkY41;have hEY41:=hEY38.app hts (r:=⟨Ao,k,co⟩) rfl hbb.out hrsg.out (fun k' e=>Nat.lt_trans (hv2g.out k' e) hW2g.out) hgxb hRY41 hgY41 hkY41;have mKY41:=Kept.grownC mKY38 hgY41 (fun k' hk=>hEY38.1.1.1.row_ge k' hk);have hbl37Y38Y41:=hEY38.far hts hgY41 hbl37Y38;refine hK.out _ _ (fun _=>hEY41.cells) ?_;clear hK K
       try simp only [Act.put,putL_a,putL_z,putL_s]
       refine Zu4 1 [10] rfl (by kernel_rfl) hEY41.cells ?_
       (refine tk1 (v:=?_) rfl (Or.inl ⟨by kernel_rfl,?_⟩) ?_;rotate_left;(· intro W2 _;go_simp;try with_reducible rfl);try simp only [Act.put,putL_a,putL_z,putL_s,putG_a,putG_s,putG_z])
       refine tk0 ?_;refine Ze (i:=9) rfl (by kernel_rfl) (fun K hK=>?_);rw [if_pos (by rfl)];refine Zaf _ (.tmp 95) (.tmp 97) 92 rfl W0.heap.size 99 iN Tryz.underlying92 hi hz0 hz1 hz2 (.slice A2 k c2) _ rfl hEY41.1.2.1 _ (some ⟨ga36,0,none⟩) 1 1 [⟨ln,lA,lk,lc,lm,lB,lj,ld,dQ AQ k⟩] rfl (Zbm _ hbl37Y38Y41) rfl (by intro e he;rw [List.mem_singleton] at he;subst he;exact hEY41.2.2.1) hlen2 mKY41.size ?_;intro vY42 Y42 hPY42 hgY42 hkY42 hwY42;obtain ⟨f1,f3⟩:=hEY41.app hts hgxb hPY42 hgY42 hkY42 hwY42;have mKY42:=Kept.grownC mKY41 hgY42 (fun k' hk=>hEY41.1.2.1.row_ge k' hk);refine hK.out _ _ (fun _=>⟨by rw [f3.cell];rfl,by rw [f3.cell];rfl⟩) ?_;clear hK K
       try simp only [Act.put,putL_a,putL_z,putL_s]
       obtain ⟨a7,a9,e7,-⟩:=f1.1.mflA;obtain ⟨b1,b3,e8,-⟩:=f1.2.1.fl;rw [<- Zbn,Zcg] at e7;subst e7
       obtain rfl:vY42=.slice b1 (k+1) b3:=by rw [e8];congr 1;simp [Zds]
       clear e8;have f6:Kept (fun k=>k=gx) Y42 ((Y42.setCell ⟨gx,0,none⟩ (.slice a7 (k+1) a9)).setCell ⟨gx,1,none⟩ (.slice b1 (k+1) b3)):=Kept.set_ (G:=fun k=>k=gx) (Kept.set_ (G:=fun k=>k=gx) (Kept.refl _ _) (p:=⟨gx,0,none⟩) (.inl rfl) _) (p:=⟨gx,1,none⟩) (.inl rfl) _;have f5:Blk (Y42.setCell ⟨gx,0,none⟩ (.slice a7 (k+1) a9)) gx 94 #[.slice a7 (k+1) a9,.slice A2 k c2]:=f3.set_ 0 _;have f7:Blk ((Y42.setCell ⟨gx,0,none⟩ (.slice a7 (k+1) a9)).setCell ⟨gx,1,none⟩ (.slice b1 (k+1) b3)) gx 94 #[.slice a7 (k+1) a9,.slice b1 (k+1) b3]:=f5.set_ 1 _;have f8:=f1.box f3 (Zdc _ _ _ _ _ _) hgxb f6
       have u0:Y42.cell? ⟨gx,0,none⟩=some (.slice A1 k c1):=by rw [f3.cell];rfl
       have uz0:=f3.frozen 0
       have u1:(Y42.setCell ⟨gx,0,none⟩ (.slice a7 (k+1) a9)).cell? ⟨gx,1,none⟩=some (.slice A2 k c2):=by rw [f5.cell];rfl
       have uz1:=f5.frozen 1;have mKZ:=mKY42.trans f6;obtain ⟨Z9,hZ9⟩:∃ Z,((Y42.setCell ⟨gx,0,none⟩ (.slice a7 (k+1) a9)).setCell ⟨gx,1,none⟩ (.slice b1 (k+1) b3))=Z:=⟨_,rfl⟩;rw [hZ9] at f7 f8 mKZ;replace f7:=Za f7;replace f8:=Za f8;replace mKZ:=Za mKZ;clear f1 f3 f6;refine Zp (i:=11) rfl (by kernel_rfl) (by kernel_rfl) (fun K hK=>?_);go_simp;refine hK.out _ _ ?_;clear hK K
       try simp only [Act.put,putL_a,putL_z,putL_s]
       refine Zs (i:=12) (v:=?v57) rfl (by kernel_rfl) (by kernel_rfl) (by kernel_rfl) (by kernel_rfl) (Or.inl ⟨by kernel_rfl,?hy57⟩) (fun hno=>absurd hno (by decide)) ?rest57
       case hy57=>(intro W2 _;go_simp;try with_reducible rfl)
       try simp only [Act.put,putL_a,putL_z,putL_s,putG_a,putG_s,putG_z]
       refine Zp (i:=13) rfl (by kernel_rfl) (by kernel_rfl) (fun K hK=>?_);go_simp;(try rw [hZ9]);refine hK.out _ _ ?_;clear hK K
       try simp only [Act.put,putL_a,putL_z,putL_s]
       refine Zj (by kernel_rfl) ?_ _;refine OnlyNormal.normal ?_;clear hZ9 u0 uz0 u1 uz1 f5;go_wp2_with fail
       go_roundg (n - (k+1))
       case measure=>omega
       case rel=>exact ⟨k+1,_,_,rs ++ [⟨Ao,k,co⟩],by omega,by go_num,f7.out,by rw [Zbn,Ze7];exact f8.out,hpos2,mKZ.out⟩
    | succ t2 =>
     obtain rfl:t2=i - (k+1):=by omega
     have hki:k < i:=by omega
     have t2:decide ((k:Int) < (i:Int))=true:=decide_eq_true (by omega)
     have bki:(k:Int) < (i:Int):=by omega
     have bkn:(k:Int) < (n:Int):=by omega
     obtain ⟨yn,yA,yk,yc,ym,yB,yj,yd,⟨r0,r1,r2,r3⟩,hY⟩:=(hR.out.below hBk.out).atS (show k < n by omega);rw [hent.out] at hY;obtain ⟨V3,hV3,hBV3,p3,s3⟩:=Zaw wk 99 #[.bool false,.slice none 0 0,.bool false,.slice none 0 0];obtain ⟨gs,hgs⟩:∃ g,wk.heap.size=g:=⟨_,rfl⟩;rw [hgs] at p3 s3;obtain ⟨u0,u1,u2,u3,v0,v1,v2,v3⟩:=p3.four;obtain ⟨W4,hW4,p4,hK4,s4⟩:=Zao yn yA yk yc ym yB yj yd p3;have hB4:Below wk.heap.size wk W4:=hBV3.trans (hK4.to_below (fun k e=>by omega) hBV3.size);have hs4:Hid (W4.heap.size=gs+1):=Za (by rw [s4,s3]);have hY4:=Za (hY.below hB4);have hgls:Hid (gl < gs):=Za (by have:=hbl.lt;omega);replace hB4:=Za hB4;replace hown:=Za hown;replace hFo:=Za hFo;replace hbl:=Za hbl;replace hK3:=Za hK3;replace p4:=Za p4;clear hY hBV3 hK4 s3 s4 hbxk;go_wp2_with fail;(try rw [hgs]);(try rw [hW4]);clear u0 u1 u2 u3 v0 v1 v2 v3 p3 hV3 hW4 r0 r1 r2 r3 xk0 xk1 zk0 zk1 l0 l1 l2 l3 m0 m1 m2 m3;replace hgs:=Za hgs
     go_loopg [32] k (fun t jv wj=>∃ (j:Nat) (sn:Bool) (sA:Option Addr) (sk sc:Nat) (sm:Bool) (sB:Option Addr) (sj sd:Nat),j+t=k/\jv=.int .i64 j/\Blk wj gs 99 #[.bool sn,.slice sA sk sc,.bool sm,.slice sB sj sd]/\Hid (Fr wj sn sA sk sc sm sB sj sd (Zl AQ j i k))/\Kept (fun g=>g=gs) W4 wj)
     case atStart=>exact ⟨0,_,_,_,_,_,_,_,_,by omega,rfl,p4.out,hY4,Kept.refl _ _⟩
     case round =>
      clear p4 hY4;obtain ⟨wj,rfl⟩:∃ x:World,x=wr:=⟨_,rfl⟩;obtain ⟨j,sn,sA,sk,sc,sm,sB,sj,sd,hjt,rfl,hbs,hs,hK5⟩:=hrel;have hs4':=hs4.out;have hgs':=hgs.out;have hBj:Hid (Below wk.heap.size wk wj):=Za (hB4.out.trans (hK5.to_below (fun k e=>by omega) (by omega)));have hBrj:Hid (Below wi.heap.size wi wj):=Za (hBk.out.trans (hBj.out.mono hBk.out.size));have hbxj:=Zc hBrj.out hbx.out
      have xj0:wj.cell? ⟨gx,0,none⟩=some (.slice A1 i c1):=by rw [hbxj.cell];rfl
      have xj1:wj.cell? ⟨gx,1,none⟩=some (.slice A2 i c2):=by rw [hbxj.cell];rfl
      obtain ⟨s0,s1,s2,s3,y0,y1,y2,y3⟩:=hbs.four
      cases gk with
      | zero =>
       obtain rfl:j=k:=by omega
       have t3:decide ((j:Int) < (j:Int))=false:=by simp
       obtain ⟨gd,od',dn,dA,dk,dc,dm,dB,dj,dd,rfl,⟨d0,d1,d2,d3⟩,hD⟩:=(hL2.out.below hBrj.out).at_ hki;rw [Zmq hki] at hD;replace hD:=Za hD;go_wp2_with fail;obtain ⟨X0,hX0⟩:∃ X,wj.drew=X:=⟨_,rfl⟩
       have hr1:Below wj.heap.size wj X0:=by rw [<- hX0];exact Zi (Below.refl _ _) 1
       have hSv1:Hid (∀ wx,Below wj.heap.size wj wx->wx.cell? ⟨gs,0,none⟩=some (.bool sn)/\wx.cell? ⟨gs,1,none⟩=some (.slice sA sk sc)/\wx.cell? ⟨gs,2,none⟩=some (.bool sm)/\wx.cell? ⟨gs,3,none⟩=some (.slice sB sj sd)/\wx.cell? ⟨gx,1,none⟩=some (.slice (some ⟨gd,od',none⟩) i c2)/\wx.cell? ⟨gd,od'+j * 4,none⟩=some (.bool dn)/\wx.cell? ⟨gd,od'+j * 4+1,none⟩=some (.slice dA dk dc)/\wx.cell? ⟨gd,od'+j * 4+2,none⟩=some (.bool dm)/\wx.cell? ⟨gd,od'+j * 4+3,none⟩=some (.slice dB dj dd)):=Za (fun wx hbx=>⟨Zb hbx s0,Zb hbx s1,Zb hbx s2,Zb hbx s3,Zb hbx xj1,Zb hbx d0,Zb hbx d1,Zb hbx d2,Zb hbx d3⟩);refine wp_heldS [] hmx hSv1 (by rw [hX0];exact hr1) (fun hxs=>?_);rw [hX0];refine Zu5 7 [0,1,2,3,4,5,6] rfl (by kernel_rfl) (hSv1.out _ hr1) ?_
       iterate 7 (refine tk1 (v:=?_) rfl (Or.inl ⟨by kernel_rfl,?_⟩) ?_;rotate_left;(· intro W2 hSw;(try dsimp only at hSw);go_simp;try with_reducible rfl);try simp only [Act.put,putL_a,putL_z,putL_s,putG_a,putG_s,putG_z])
       refine tk0 ?_;refine Ze (i:=7) rfl (by kernel_rfl) (fun K hK=>?_);go_simp;refine (Zj9 sn sm dn dm sA sB dA dB sk sc sj sd dk dc dj dd _ _ X0 (hs.out.below hr1) (hD.out.below hr1) (fac_q hF.out hin hki hpos.out).1 (fac_q hF.out hin hki hpos.out).2.1 (fac_q hF.out hin hki hpos.out).2.2).mono ?_;rintro e w5 ⟨hb5,an,aA,ak,ac,am,aB,aj,ad,rfl,hT⟩;have hr5:=hr1.trans (hb5.mono hr1.size);refine hK.out _ _ (fun _=>hSv1.out _ hr5) ?_;clear hK K
       try simp only [Act.put,putL_a,putL_z,putL_s]
       obtain ⟨Y1,hY1⟩:∃ Y,w5.alloc (.cells #[.bool an,.slice aA ak ac,.bool am,.slice aB aj ad] 99)=Y:=⟨_,rfl⟩;obtain ⟨ga1,hga1⟩:∃ g,w5.heap.size=g:=⟨_,rfl⟩
       have hBY:Below w5.heap.size w5 Y1:=by rw [<- hY1];exact (Below.refl _ _).alloc (Nat.le_refl _) _
       have hbY:Blk Y1 ga1 99 #[.bool an,.slice aA ak ac,.bool am,.slice aB aj ad]:=by rw [<- hY1,<- hga1];exact Blk.new _ _ _
       have hr2:Below wj.heap.size wj Y1:=hr5.trans (hBY.mono hr5.size);refine Ze (i:=8) rfl (by kernel_rfl) (fun K hK=>?_);go_simp;(try rw [hY1]);(try rw [hga1]);refine hK.out _ _ (fun _=>hSv1.out _ hr2) ?_;clear hK K hY1 hga1
       try simp only [Act.put,putL_a,putL_z,putL_s]
       have hTY:=hT.below hBY;have hBkY:Below wk.heap.size wk Y1:=hBj.out.trans (hr2.mono hBj.out.size);have hOr:=hown.out.kept hBkY;have hYb:W2.heap.size <= Y1.heap.size:=Nat.le_trans hK3.out.size hBkY.size
       have hlen9:(Zhc AQ i j).length+1 <= 1000:=by rw [Zex];omega
       refine Ze (i:=9) rfl (by kernel_rfl) (fun K hK=>?_);rw [if_pos (by rfl)];refine Zaf _ (.tmp 57) (.tmp 65) 92 rfl W2.heap.size 99 iN Tryz.underlying92 hi hz0 hz1 hz2 (.slice Ao j co) _ rfl hOr _ (some ⟨ga1,0,none⟩) 1 1 [⟨an,aA,ak,ac,am,aB,aj,ad,Zl AQ j i j / dQ AQ j⟩] rfl (Zbm _ hbY) rfl (by intro e he;rw [List.mem_singleton] at he;subst he;exact hTY) hlen9 hYb ?_;intro vY Y2 hO2 hg2 hk2 hw2
       have hO2':OwnF 99 Y2 W2.heap.size vY (Zhc AQ i (j+1)):=by rw [Zsu];exact hO2
       obtain ⟨Ap,cp,e4,hFp⟩:=hO2'.fl;rw [Zex] at e4 hFp;subst e4;have hge:=hOr.row_ge;have hlt:=hown.out.blt;have hKY:Hid (Kept (fun g=>g=gl) W2 Y1):=Za (hK3.out.below hBkY);have hKY2:Hid (Kept (fun g=>g=gl) W2 Y2):=Za ⟨hg2.os.trans hKY.out.os,hg2.tape.trans hKY.out.tape,hg2.output.trans hKY.out.output,Nat.le_trans hKY.out.size hg2.size,fun g hg hne=>(hg2.block g (Nat.lt_of_lt_of_le hg hKY.out.size) (fun e=>by have:=hge g (by first | exact e | exact e.symm);omega)).trans (hKY.out.block g hg hne)⟩;have hblY:Hid (Blk Y2 gl 99 #[.bool ln,.slice lA lk lc,.bool lm,.slice lB lj ld]):=Za ((hg2.block gl (Nat.lt_of_lt_of_le hbl.out.lt hBkY.size) (fun e=>by have:=hge gl (by first | exact e | exact e.symm);omega)).trans (Zc hBkY hbl.out));have hlY:Hid (Fr Y2 ln lA lk lc lm lB lj ld (Zl AQ j i i)):=Za ⟨⟨hl.out.1.1,hl.out.1.2.1,hk2 _ _ _ _ (hl.out.below hBkY).1.2.2⟩,⟨hl.out.2.1,hl.out.2.2.1,hk2 _ _ _ _ (hl.out.below hBkY).2.2.2⟩⟩;have hBrY:Hid (Below wi.heap.size wi Y2):=Za (hB2.out.trans (hKY2.out.to_below (fun g e=>by omega) (by omega)));obtain ⟨_,_,_,_,_,_,_,_,⟨dd0,-⟩,-⟩:=hL2.out.atS hki;have hgd:gd < wi.heap.size:=Z0 dd0
       have hsame:∀ (g o:Nat) (v:Value),(∀ k',(Value.slice Ao j co).ownBlock=some k'->k' ≠ g)->Y1.cell? ⟨g,o,none⟩=some v->Y2.cell? ⟨g,o,none⟩=some v:=fun g o v hne hv=>by
        rw [<- hv];exact World.cell?_of_block (hg2.block g (Z0 hv) (fun e=>hne g (by first | exact e | exact e.symm) rfl))
       have hSY2:Y2.cell? ⟨gs,0,none⟩=some (.bool sn)/\Y2.cell? ⟨gs,1,none⟩=some (.slice sA sk sc)/\Y2.cell? ⟨gs,2,none⟩=some (.bool sm)/\Y2.cell? ⟨gs,3,none⟩=some (.slice sB sj sd)/\Y2.cell? ⟨gx,1,none⟩=some (.slice (some ⟨gd,od',none⟩) i c2)/\Y2.cell? ⟨gd,od'+j * 4,none⟩=some (.bool dn)/\Y2.cell? ⟨gd,od'+j * 4+1,none⟩=some (.slice dA dk dc)/\Y2.cell? ⟨gd,od'+j * 4+2,none⟩=some (.bool dm)/\Y2.cell? ⟨gd,od'+j * 4+3,none⟩=some (.slice dB dj dd):=by
        obtain ⟨p0,p1,p2,p3,p4,p5,p6,p7,p8⟩:=hSv1.out _ hr2;refine ⟨hsame _ _ _ (fun k' e=>by have:=hlt k' e;omega) p0,hsame _ _ _ (fun k' e=>by have:=hlt k' e;omega) p1,hsame _ _ _ (fun k' e=>by have:=hlt k' e;omega) p2,hsame _ _ _ (fun k' e=>by have:=hlt k' e;omega) p3,hsame _ _ _ (fun k' e=>by have:=hge k' e;omega) p4,hsame _ _ _ (fun k' e=>by have:=hge k' e;omega) p5,hsame _ _ _ (fun k' e=>by have:=hge k' e;omega) p6,hsame _ _ _ (fun k' e=>by have:=hge k' e;omega) p7,hsame _ _ _ (fun k' e=>by have:=hge k' e;omega) p8⟩
       refine hK.out _ _ (fun _=>hSY2) ?_;clear hK K dd0 hsame
       try simp only [Act.put,putL_a,putL_z,putL_s]
       refine Zu4 1 [10] rfl (by kernel_rfl) hSY2 ?_
       (refine tk1 (v:=?_) rfl (Or.inl ⟨by kernel_rfl,?_⟩) ?_;rotate_left;(· intro W2 _;go_simp;try with_reducible rfl);try simp only [Act.put,putL_a,putL_z,putL_s,putG_a,putG_s,putG_z])
       refine tk0 ?_;refine Zj (by kernel_rfl) ?_ _;refine OnlyNormal.normal ?_;replace hO2':=Za hO2';replace hFp:=Za hFp;clear hSY2 hgd hSv1 hxs hr1 hr2 hr5 hbY hBY hX0 hO2 hg2 hk2 hw2 hge hlt hOr hTY hT hBkY hKY hYb hlen9 s0 s1 s2 s3 y0 y1 y2 y3 xj0 xj1 d0 d1 d2 d3 hD hbs hs hK5 hbxj hBj hBrj hl hbl hK3 hown hFo;obtain ⟨l0,l1,l2,l3,-⟩:=hblY.out.four;have hbxY:=Zc hBrY.out hbx.out
       have xy1:Y2.cell? ⟨gx,1,none⟩=some (.slice (some ⟨gd,od',none⟩) i c2):=by rw [hbxY.cell];rfl
       obtain ⟨dn,dA,dk,dc,dm,dB,dj,dd,⟨d0,d1,d2,d3⟩,hD⟩:=(hL2.out.below hBrY.out).atS hki;rw [Zmq hki] at hD;replace hD:=Za hD;obtain ⟨go,oo,on_,oA,ok,oc,om,oB,oj,od,rfl,⟨o0,o1,o2,o3⟩,hO⟩:=hFp.out.at_ (Nat.lt_succ_self j);rw [Zi5 (Nat.lt_succ_self j)] at hO;replace hO:=Za hO;have hpcap:=hFp.out.cap;unfold maxLen at hpcap
       have bjs:(j:Int) < ((j:Int)+1):=by omega
       have bjs2:(j:Int) < ((j+1:Nat):Int):=by omega
       have bji:(j:Int) < (i:Int):=by omega
       go_wp2_with fail;obtain ⟨X0,hX0⟩:∃ X,Y2.drew=X:=⟨_,rfl⟩
       have hr1:Below Y2.heap.size Y2 X0:=by rw [<- hX0];exact Zi (Below.refl _ _) 1
       have hSv1:Hid (∀ wx,Below Y2.heap.size Y2 wx->wx.cell? ⟨gl,0,none⟩=some (.bool ln)/\wx.cell? ⟨gl,1,none⟩=some (.slice lA lk lc)/\wx.cell? ⟨gl,2,none⟩=some (.bool lm)/\wx.cell? ⟨gl,3,none⟩=some (.slice lB lj ld)/\wx.cell? ⟨go,oo+j * 4,none⟩=some (.bool on_)/\wx.cell? ⟨go,oo+j * 4+1,none⟩=some (.slice oA ok oc)/\wx.cell? ⟨go,oo+j * 4+2,none⟩=some (.bool om)/\wx.cell? ⟨go,oo+j * 4+3,none⟩=some (.slice oB oj od)/\wx.cell? ⟨gx,1,none⟩=some (.slice (some ⟨gd,od',none⟩) i c2)/\wx.cell? ⟨gd,od'+j * 4,none⟩=some (.bool dn)/\wx.cell? ⟨gd,od'+j * 4+1,none⟩=some (.slice dA dk dc)/\wx.cell? ⟨gd,od'+j * 4+2,none⟩=some (.bool dm)/\wx.cell? ⟨gd,od'+j * 4+3,none⟩=some (.slice dB dj dd)):=Za (fun wx hbx=>⟨Zb hbx l0,Zb hbx l1,Zb hbx l2,Zb hbx l3,Zb hbx o0,Zb hbx o1,Zb hbx o2,Zb hbx o3,Zb hbx xy1,Zb hbx d0,Zb hbx d1,Zb hbx d2,Zb hbx d3⟩);refine wp_heldS [17] hmx hSv1 (by rw [hX0];exact hr1) (fun hxs=>?_);rw [hX0];refine Zu5 14 [0,1,2,3,4,5,6,7,8,9,10,11,12,13] rfl (by kernel_rfl) (hSv1.out _ hr1) ?_
       iterate 14 (refine tk1 (v:=?_) rfl (Or.inl ⟨by kernel_rfl,?_⟩) ?_;rotate_left;(· intro W2 hSw;(try dsimp only at hSw);go_simp;try with_reducible rfl);try simp only [Act.put,putL_a,putL_z,putL_s,putG_a,putG_s,putG_z])
       refine tk0 ?_;obtain ⟨Y1,hY1⟩:∃ Y,X0.alloc (.cells #[.bool on_,.slice oA ok oc,.bool om,.slice oB oj od,.bool dn,.slice dA dk dc,.bool dm,.slice dB dj dd] 99)=Y:=⟨_,rfl⟩;obtain ⟨ga1,hga1⟩:∃ g,X0.heap.size=g:=⟨_,rfl⟩
       have hBY:Below X0.heap.size X0 Y1:=by rw [<- hY1];exact (Below.refl _ _).alloc (Nat.le_refl _) _
       have hbY:Blk Y1 ga1 99 #[.bool on_,.slice oA ok oc,.bool om,.slice oB oj od,.bool dn,.slice dA dk dc,.bool dm,.slice dB dj dd]:=by rw [<- hY1,<- hga1];exact Blk.new _ _ _
       have hr2:Below Y2.heap.size Y2 Y1:=hr1.trans (hBY.mono hr1.size);refine Ze (i:=14) rfl (by kernel_rfl) (fun K hK=>?_);go_simp;(try rw [hY1]);(try rw [hga1]);refine hK.out _ _ (fun _=>hSv1.out _ hr2) ?_;clear hK K hY1 hga1
       try simp only [Act.put,putL_a,putL_z,putL_s]
       refine Ze (i:=15) rfl (by kernel_rfl) (fun K hK=>?_);go_simp;refine (Zb4 on_ oA ok oc om oB oj od (lQ AQ i j) (some ⟨ga1,0,none⟩) 2 2 [lQ AQ i j,dQ AQ j] Y1 (hO.out.below hr2) (FL.pair2 hbY (hO.out.below hr2) (hD.out.below hr2)) (by omega) (Zjf hF.out hin hki hpos.out).1 (Zjf hF.out hin hki hpos.out).2).mono ?_;rintro e w5 ⟨hb5,an,aA,ak,ac,am,aB,aj,ad,rfl,hT⟩;have hr5:=hr2.trans (hb5.mono hr2.size);refine hK.out _ _ (fun _=>hSv1.out _ hr5) ?_;clear hK K
       try simp only [Act.put,putL_a,putL_z,putL_s]
       refine Ze (i:=16) rfl (by kernel_rfl) (fun K hK=>?_);go_simp;refine (Zd2 ln lm an am lA lB aA aB lk lc lj ld ak ac aj ad _ _ w5 (hlY.out.below hr5) hT (Zq2 hF.out hin hki hpos.out).1 (Zq2 hF.out hin hki hpos.out).2).mono ?_;rintro e w6 ⟨hb6,bn,bA,bk,bc,bm,bB,bj,bd,rfl,hU⟩;have hr6:=hr5.trans (hb6.mono hr5.size);refine hK.out _ _ (fun _=>hSv1.out _ hr6) ?_;clear hK K
       try simp only [Act.put,putL_a,putL_z,putL_s]
       have hr6':Below Y2.heap.size Y2 w6:=hr6;have hbt:=Zc hr6' hblY.out;obtain ⟨f0,f1,f2,f3,g0',g1',g2',g3'⟩:=hbt.four;obtain ⟨W7,hW7,p7,hK7,s7⟩:=Zao bn bA bk bc bm bB bj bd hbt;have hU7:=Za (hU.keptN hK7 hbt (Zay _ _ _ _ _ _ _ _));have hOwn7:=Za ((hO2'.out.kept hr6').keptG hbt (Zay _ _ _ _ _ _ _ _) (fun e=>by have h8:=hO2'.out.row_ge gl e;omega) hK7);have hK8:Hid (Kept (fun g=>g=gl) W2 W7):=Za ((hKY2.out.below hr6').trans hK7);replace p7:=Za p7;clear hK7 hU hT;refine Zp (i:=17) rfl (by kernel_rfl) (by kernel_rfl) (fun K hK=>?_);go_simp;(try rw [hW7]);refine hK.out _ _ ?_;clear hK K
       try simp only [Act.put,putL_a,putL_z,putL_s]
       refine Zj (by kernel_rfl) ?_ _;refine OnlyNormal.normal ?_;clear hW7 f0 f1 f2 f3 g0' g1' g2' g3' hbt hSv1 hxs hr1 hr2 hr5 hr6 hr6' hbY hBY hX0
       have hU8:Hid (Fr W7 bn bA bk bc bm bB bj bd (Zl AQ (j+1) i i)):=Za (by
        rw [Zjl hF.out.sym hki (Nat.le_refl _) hin (hpos.out.ne hki)]
        exact hU7.out)
       have hO9:Hid (OwnF 99 W7 W2.heap.size (.slice (some ⟨go,oo,none⟩) (j+1) cp) (Zhc AQ i (j+1))):=Za (hOwn7.out);clear hU7;go_wp2_with fail
       go_roundg (i - (j+1))
       case measure=>omega
       case rel=>exact ⟨j+1,_,_,_,_,_,_,_,_,by omega,by go_num,hO9.out,p7.out,hU8,hK8.out⟩
      | succ t3 =>
       obtain rfl:t3=k - (j+1):=by omega
       have hjk:j < k:=by omega
       have t3:decide ((j:Int) < (k:Int))=true:=decide_eq_true (by omega)
       have bjk:(j:Int) < (k:Int):=by omega
       have bji:(j:Int) < (i:Int):=by omega
       have bki2:(k:Int) < (i:Int):=by omega
       obtain ⟨go,oo,on_,oA,ok,oc,om,oB,oj,od,rfl,⟨o0,o1,o2,o3⟩,hO⟩:=(hFo.out.below hBj.out).at_ hjk;obtain ⟨g1,o1',A',n',c',rfl,ck,hRk⟩:=(hM1.out.below hBrj.out).at_ hki;rw [Zjz hki] at hRk
       have hnk:n'=k:=by rw [<- hRk.len,Zex]
       rw [hnk] at hRk ck;clear hnk n';have hrc:=hRk.cap;unfold maxLen at hrc;obtain ⟨gq,oq,qn,qA,qk,qc,qm,qB,qj,qd,rfl,⟨q0,q1,q2,q3⟩,hQ⟩:=hRk.at_ hjk;obtain ⟨gd,od',dn,dA,dk,dc,dm,dB,dj,dd,rfl,⟨d0,d1,d2,d3⟩,hD⟩:=(hL2.out.below hBrj.out).at_ (show j < i by omega);rw [Zi5 hjk] at hO hQ;rw [Zmq (show j < i by omega)] at hD;replace hO:=Za hO;replace hQ:=Za hQ;replace hD:=Za hD;clear hRk;go_wp2_with fail;obtain ⟨X0,hX0⟩:∃ X,wj.drew=X:=⟨_,rfl⟩
       have hr1:Below wj.heap.size wj X0:=by rw [<- hX0];exact Zi (Below.refl _ _) 1
       have hSv1:Hid (∀ wx,Below wj.heap.size wj wx->wx.cell? ⟨gs,0,none⟩=some (.bool sn)/\wx.cell? ⟨gs,1,none⟩=some (.slice sA sk sc)/\wx.cell? ⟨gs,2,none⟩=some (.bool sm)/\wx.cell? ⟨gs,3,none⟩=some (.slice sB sj sd)/\wx.cell? ⟨go,oo+j * 4,none⟩=some (.bool on_)/\wx.cell? ⟨go,oo+j * 4+1,none⟩=some (.slice oA ok oc)/\wx.cell? ⟨go,oo+j * 4+2,none⟩=some (.bool om)/\wx.cell? ⟨go,oo+j * 4+3,none⟩=some (.slice oB oj od)/\wx.cell? ⟨gx,0,none⟩=some (.slice (some ⟨g1,o1',none⟩) i c1)/\wx.cell? ⟨g1,o1'+k,none⟩=some (.slice (some ⟨gq,oq,none⟩) k c')/\wx.cell? ⟨gq,oq+j * 4,none⟩=some (.bool qn)/\wx.cell? ⟨gq,oq+j * 4+1,none⟩=some (.slice qA qk qc)/\wx.cell? ⟨gq,oq+j * 4+2,none⟩=some (.bool qm)/\wx.cell? ⟨gq,oq+j * 4+3,none⟩=some (.slice qB qj qd)/\wx.cell? ⟨gx,1,none⟩=some (.slice (some ⟨gd,od',none⟩) i c2)/\wx.cell? ⟨gd,od'+j * 4,none⟩=some (.bool dn)/\wx.cell? ⟨gd,od'+j * 4+1,none⟩=some (.slice dA dk dc)/\wx.cell? ⟨gd,od'+j * 4+2,none⟩=some (.bool dm)/\wx.cell? ⟨gd,od'+j * 4+3,none⟩=some (.slice dB dj dd)):=Za (fun wx hbx=>⟨Zb hbx s0,Zb hbx s1,Zb hbx s2,Zb hbx s3,Zb hbx o0,Zb hbx o1,Zb hbx o2,Zb hbx o3,Zb hbx xj0,Zb hbx ck,Zb hbx q0,Zb hbx q1,Zb hbx q2,Zb hbx q3,Zb hbx xj1,Zb hbx d0,Zb hbx d1,Zb hbx d2,Zb hbx d3⟩);refine wp_heldS [21] hmx hSv1 (by rw [hX0];exact hr1) (fun hxs=>?_);rw [hX0]
       refine Zu5 18 [0,1,2,3,4,5,6,7,8,9,10,11,12,13,14,15,16,17] rfl (by kernel_rfl) (hSv1.out _ hr1) ?_
       iterate 18 (refine tk1 (v:=?_) rfl (Or.inl ⟨by kernel_rfl,?_⟩) ?_;rotate_left;(· intro W2 hSw;(try dsimp only at hSw);go_simp;try with_reducible rfl);try simp only [Act.put,putL_a,putL_z,putL_s,putG_a,putG_s,putG_z])
       refine tk0 ?_;obtain ⟨Y1,hY1⟩:∃ Y,X0.alloc (.cells #[.bool qn,.slice qA qk qc,.bool qm,.slice qB qj qd,.bool dn,.slice dA dk dc,.bool dm,.slice dB dj dd] 99)=Y:=⟨_,rfl⟩;obtain ⟨ga1,hga1⟩:∃ g,X0.heap.size=g:=⟨_,rfl⟩
       have hBY:Below X0.heap.size X0 Y1:=by rw [<- hY1];exact (Below.refl _ _).alloc (Nat.le_refl _) _
       have hbY:Blk Y1 ga1 99 #[.bool qn,.slice qA qk qc,.bool qm,.slice qB qj qd,.bool dn,.slice dA dk dc,.bool dm,.slice dB dj dd]:=by rw [<- hY1,<- hga1];exact Blk.new _ _ _
       have hr2:Below wj.heap.size wj Y1:=hr1.trans (hBY.mono hr1.size);refine Ze (i:=18) rfl (by kernel_rfl) (fun K hK=>?_);go_simp;(try rw [hY1]);(try rw [hga1]);refine hK.out _ _ (fun _=>hSv1.out _ hr2) ?_;clear hK K hY1 hga1
       try simp only [Act.put,putL_a,putL_z,putL_s]
       refine Ze (i:=19) rfl (by kernel_rfl) (fun K hK=>?_);go_simp;refine (Zb4 on_ oA ok oc om oB oj od (lQ AQ i j) (some ⟨ga1,0,none⟩) 2 2 [lQ AQ k j,dQ AQ j] Y1 (hO.out.below hr2) (FL.pair2 hbY (hQ.out.below hr2) (hD.out.below hr2)) (by omega) (Zlu hF.out hin hki hjk hpos.out).1 (Zlu hF.out hin hki hjk hpos.out).2).mono ?_;rintro e w5 ⟨hb5,an,aA,ak,ac,am,aB,aj,ad,rfl,hT⟩;have hr5:=hr2.trans (hb5.mono hr2.size);refine hK.out _ _ (fun _=>hSv1.out _ hr5) ?_;clear hK K
       try simp only [Act.put,putL_a,putL_z,putL_s]
       refine Ze (i:=20) rfl (by kernel_rfl) (fun K hK=>?_);go_simp;refine (Zd2 sn sm an am sA sB aA aB sk sc sj sd ak ac aj ad _ _ w5 (hs.out.below hr5) hT (Zs2 hF.out hin hki hjk hpos.out).1 (Zs2 hF.out hin hki hjk hpos.out).2).mono ?_;rintro e w6 ⟨hb6,bn,bA,bk,bc,bm,bB,bj,bd,rfl,hU⟩;have hr6:=hr5.trans (hb6.mono hr5.size);refine hK.out _ _ (fun _=>hSv1.out _ hr6) ?_;clear hK K
       try simp only [Act.put,putL_a,putL_z,putL_s]
       have hr6':Below wj.heap.size wj w6:=hr6;have hbt:=Zc hr6' hbs;obtain ⟨f0,f1,f2,f3,g0',g1',g2',g3'⟩:=hbt.four;obtain ⟨W7,hW7,p7,hK7,s7⟩:=Zao bn bA bk bc bm bB bj bd hbt;have hU7:=Za (hU.keptN hK7 hbt (Zay _ _ _ _ _ _ _ _));have hK8:Hid (Kept (fun g=>g=gs) W4 W7):=Za ((hK5.below hr6').trans hK7);replace p7:=Za p7;clear hK7 hU hT;refine Zp (i:=21) rfl (by kernel_rfl) (by kernel_rfl) (fun K hK=>?_);go_simp;(try rw [hW7]);refine hK.out _ _ ?_;clear hK K
       try simp only [Act.put,putL_a,putL_z,putL_s]
       refine Zj (by kernel_rfl) ?_ _;refine OnlyNormal.normal ?_;clear hW7 f0 f1 f2 f3 g0' g1' g2' g3' hbt hSv1 hxs hr1 hr2 hr5 hr6 hr6' hbY hBY hX0
       have hU8:Hid (Fr W7 bn bA bk bc bm bB bj bd (Zl AQ (j+1) i k)):=Za (by
        rw [Zjl hF.out.sym hjk (by omega) hin (hpos.out.ne (by omega))]
        exact hU7.out)
       clear hU7;go_wp2_with fail
       go_roundg (k - (j+1))
       case measure=>omega
       case rel=>exact ⟨j+1,_,_,_,_,_,_,_,_,by omega,by go_num,p7.out,hU8,hK8.out⟩
theorem Zl3 {x y:Int} {na nb:Bool} (ha:na=decide (x < 0)) (hb:nb=decide (y < 0)):Ze4 na nb (digits x.natAbs) (digits y.natAbs)=decide (x=y):=by
 unfold Ze4;rw [Zb9,ha,hb]
 by_cases h:x=y
 ·subst h;simp [Zbo]
 ·rw [decide_eq_false h]
  unfold Zbo
  by_cases h1:(decide (x < 0) == decide (y < 0))=true
  ·have:x.natAbs ≠ y.natAbs:=by
     intro e;rw [beq_iff_eq,decide_eq_decide] at h1;omega
   rcases Nat.lt_or_gt_of_ne this with h2 | h2
   ·rw [if_pos (by omega)];simp
   ·rw [if_neg (by omega),if_pos (by omega)];simp
  ·rw [Bool.not_eq_true] at h1;rw [h1];rfl
def Fz (w:World) (na:Bool) (A:Option Addr) (n c:Nat) (nb:Bool) (B:Option Addr) (m d:Nat) (q:Int × Int):Prop:=Wd w na A n c q.1/\Wd w nb B m d q.2
theorem Fz.below {w w':World} {na:Bool} {A:Option Addr} {n c:Nat} {nb:Bool} {B:Option Addr} {m d:Nat} {r:Int × Int} (h:Fz w na A n c nb B m d r) (hb:Below w.heap.size w w'):Fz w' na A n c nb B m d r:=⟨h.1.below hb,h.2.below hb⟩
def prQ (r:Rat):Int × Int:=(r.num,(r.den:Nat))
theorem Fr.fz {w:World} {na:Bool} {A:Option Addr} {n c:Nat} {nb:Bool} {B:Option Addr} {m d:Nat} {r:Rat} (h:Fr w na A n c nb B m d r):Fz w na A n c nb B m d (prQ r):=h
theorem Zsw (na nb na' nb':Bool) (A B A' B':Option Addr) (n c m d n' c' m' d':Nat) (a b:Int × Int) (w:World) (ha:Fz w na A n c nb B m d a) (hb:Fz w na' A' n' c' nb' B' m' d' b) (s:Bool) (hs:decide (a=b)=s) :
    Calls Tryz.prog 18 #[.agg #[.bool na,.slice A n c,.bool nb,.slice B m d],.agg #[.bool na',.slice A' n' c',.bool nb',.slice B' m' d']] w fun e w'=>e=.returned (.bool s)/\Below w.heap.size w w':=by
 obtain ⟨W0,hW0,hB0,⟨q0,q1⟩,s0⟩:=Zc7 w 29 #[.bool na,.slice A n c,.bool nb,.slice B m d] 29 #[.bool na',.slice A' n' c',.bool nb',.slice B' m' d'];have hA:=Za (ha.below hB0);have hD:=Za (hb.below hB0);have e1:=Za (Zl3 ha.1.1 hb.1.1);have e2:=Za (Zl3 ha.2.1 hb.2.1);clear ha hb;obtain ⟨x,hx⟩:∃ x,decide (a.1=b.1)=x:=⟨_,rfl⟩;obtain ⟨y,hy⟩:∃ y,decide (a.2=b.2)=y:=⟨_,rfl⟩
 have hsx:s=(x && y):=by
  rw [<- hs,<- hx,<- hy,Bool.eq_iff_iff];simp only [decide_eq_true_eq,Bool.and_eq_true]
  constructor
  ·rintro rfl;exact ⟨rfl,rfl⟩
  ·rintro ⟨h1,h2⟩;exact Prod.ext h1 h2
 subst hsx;rw [hx] at e1;rw [hy] at e2;clear hs hx hy;obtain ⟨a0,a1,a2,a3,-⟩:=q0.four;obtain ⟨b0,b1,b2,b3,-⟩:=q1.four;have hq:=Za (And.intro q0 q1);clear q0 q1;go_enter Tryz.func18,Tryz.ntmps18;go_wp2_with fail;refine (Zdb na na' A A' n c n' c' _ _ W0 hA.out.1.lim hD.out.1.lim).mono ?_;rw [e1.out];rintro e w1 ⟨rfl,hb1⟩;have hB1:Below w.heap.size w w1:=hB0.trans (hb1.mono hB0.size);replace hA:=Za (hA.out.below hb1);replace hD:=Za (hD.out.below hb1);obtain ⟨q0,q1⟩:=hq.out;replace q0:=Zc hb1 q0;replace q1:=Zc hb1 q1;clear hW0 hb1 a0 a1 a2 a3 b0 b1 b2 b3 hq hB0;obtain ⟨a0,a1,a2,a3,-⟩:=q0.four;obtain ⟨b0,b1,b2,b3,-⟩:=q1.four;clear q0 q1
 cases x
 ·go_wp2_with fail
  go_ret;exact ⟨rfl,hB1⟩
 ·go_wp2_with fail
  refine (Zdb nb nb' B B' m d m' d' _ _ w1 hA.out.2.lim hD.out.2.lim).mono ?_;rw [e2.out];rintro e w2 ⟨rfl,hb2⟩;have hB2:Below w.heap.size w w2:=hB1.trans (hb2.mono hB1.size);go_wp2_with fail;go_ret;exact ⟨by simp,hB2⟩
theorem prQ_inj {a b:Rat}:prQ a=prQ b ↔ a=b:=by
 constructor
 ·intro h
  have h1:=congrArg Prod.fst h;have h2:=congrArg Prod.snd h;simp only [prQ] at h1 h2;exact Rat.ext h1 (by omega)
 ·rintro rfl;rfl
theorem Zp7 (na nb na' nb':Bool) (A B A' B':Option Addr) (n c m d n' c' m' d':Nat) (a b:Rat) (w:World) (ha:Fr w na A n c nb B m d a) (hb:Fr w na' A' n' c' nb' B' m' d' b) (s:Bool) (hs:decide (a=b)=s) :
    Calls Tryz.prog 18 #[.agg #[.bool na,.slice A n c,.bool nb,.slice B m d],.agg #[.bool na',.slice A' n' c',.bool nb',.slice B' m' d']] w fun e w'=>e=.returned (.bool s)/\Below w.heap.size w w':=
 Zsw na nb na' nb' A B A' B' n c m d n' c' m' d' (prQ a) (prQ b) w ha.fz hb.fz s (by rw [<- hs];exact decide_eq_decide.2 prQ_inj)
def cmpQ (a b:Rat):Int:=if a < b then -1 else if b < a then 1 else 0
theorem Zt6 (a b:Rat):Zbo (a.num * b.den) (b.num * a.den)=cmpQ a b:=by
 unfold Zbo cmpQ;simp only [Rat.lt_iff]
theorem Zm9 (na nb:Bool) (A B:Option Addr) (n c m d:Nat) (la lb:List Nat) (w:World) (ha:Lim w A n c la) (hb:Lim w B m d lb) (hbad:okW na la=false) :
    Calls Tryz.prog 37 #[.agg #[.bool na,.slice A n c,.bool nb,.slice B m d]] w fun e w'=>e=.returned (.int .i64 8)/\Below w.heap.size w w':=by
 have hmx:Tryz.prog.follows .mixedOrders=true:=by kernel_rfl
 obtain ⟨W0,hW0,hB0,q0,s0⟩:=Zaw w 29 #[.bool na,.slice A n c,.bool nb,.slice B m d];have hA:=Za (ha.below hB0);clear ha hb;obtain ⟨a0,a1,a2,a3,-⟩:=q0.four;go_enter Tryz.func37,Tryz.ntmps37;go_wp2_with fail;refine (Zi7 hA.out hbad).mono ?_;rintro e w1 ⟨rfl,hb1⟩;have hB1:Below w.heap.size w w1:=hB0.trans (hb1.mono hB0.size);clear hW0 a0 a1 a2 a3;obtain ⟨a0,a1,a2,a3,-⟩:=(Zc hb1 q0).four;go_wp2_with fail;go_ret;exact ⟨rfl,hB1⟩
theorem Zmj (na nb:Bool) (A B:Option Addr) (n c m d:Nat) (la lb:List Nat) (w:World) (ha:Lim w A n c la) (hb:Lim w B m d lb) (hk:okW na la=true) (hbad:okW nb lb=false) :
    Calls Tryz.prog 37 #[.agg #[.bool na,.slice A n c,.bool nb,.slice B m d]] w fun e w'=>e=.returned (.int .i64 8)/\Below w.heap.size w w':=by
 have hmx:Tryz.prog.follows .mixedOrders=true:=by kernel_rfl
 obtain ⟨W0,hW0,hB0,q0,s0⟩:=Zaw w 29 #[.bool na,.slice A n c,.bool nb,.slice B m d];have hA:=Za (ha.below hB0);have hD:=Za (hb.below hB0);clear ha hb;obtain ⟨a0,a1,a2,a3,-⟩:=q0.four;go_enter Tryz.func37,Tryz.ntmps37;go_wp2_with fail;refine (Za6 hA.out hk).mono ?_;rintro e w1 ⟨rfl,hb1⟩;have hB1:Below w.heap.size w w1:=hB0.trans (hb1.mono hB0.size);replace q0:=Zc hb1 q0;replace hA:=Za (hA.out.below hb1);replace hD:=Za (hD.out.below hb1);clear hW0 a0 a1 a2 a3 hb1;obtain ⟨a0,a1,a2,a3,-⟩:=q0.four;go_wp2_with fail;refine (Zi7 hD.out hbad).mono ?_;rintro e w2 ⟨rfl,hb2⟩;have hB2:Below w.heap.size w w2:=hB1.trans (hb2.mono hB1.size);replace q0:=Zc hb2 q0;clear a0 a1 a2 a3 hb2;obtain ⟨a0,a1,a2,a3,-⟩:=q0.four;go_wp2_with fail;go_ret;exact ⟨rfl,hB2⟩
theorem Zmf (na:Bool) (A B:Option Addr) (n c m d:Nat) (la lb:List Nat) (w:World) (ha:Lim w A n c la) (hb:Lim w B m d lb) (hk:okW na la=true) (hk2:okW true lb=true) :
    Calls Tryz.prog 37 #[.agg #[.bool na,.slice A n c,.bool true,.slice B m d]] w fun e w'=>e=.returned (.int .i64 8)/\Below w.heap.size w w':=by
 have hmx:Tryz.prog.follows .mixedOrders=true:=by kernel_rfl
 obtain ⟨W0,hW0,hB0,q0,s0⟩:=Zaw w 29 #[.bool na,.slice A n c,.bool true,.slice B m d];have hA:=Za (ha.below hB0);have hD:=Za (hb.below hB0);clear ha hb;obtain ⟨a0,a1,a2,a3,-⟩:=q0.four;go_enter Tryz.func37,Tryz.ntmps37;go_wp2_with fail;refine (Za6 hA.out hk).mono ?_;rintro e w1 ⟨rfl,hb1⟩;have hB1:Below w.heap.size w w1:=hB0.trans (hb1.mono hB0.size);replace q0:=Zc hb1 q0;replace hA:=Za (hA.out.below hb1);replace hD:=Za (hD.out.below hb1);clear hW0 a0 a1 a2 a3 hb1;obtain ⟨a0,a1,a2,a3,-⟩:=q0.four;go_wp2_with fail;refine (Za6 hD.out hk2).mono ?_;rintro e w2 ⟨rfl,hb2⟩;have hB2:Below w.heap.size w w2:=hB1.trans (hb2.mono hB1.size);replace q0:=Zc hb2 q0;clear a0 a1 a2 a3 hb2;obtain ⟨a0,a1,a2,a3,-⟩:=q0.four;go_wp2_with fail;go_ret;exact ⟨rfl,hB2⟩
theorem Zm4 (na:Bool) (A B:Option Addr) (n c d:Nat) (la:List Nat) (w:World) (ha:Lim w A n c la) (hb:Lim w B 0 d []) (hk:okW na la=true) :
    Calls Tryz.prog 37 #[.agg #[.bool na,.slice A n c,.bool false,.slice B 0 d]] w fun e w'=>e=.returned (.int .i64 8)/\Below w.heap.size w w':=by
 have hmx:Tryz.prog.follows .mixedOrders=true:=by kernel_rfl
 obtain ⟨W0,hW0,hB0,q0,s0⟩:=Zaw w 29 #[.bool na,.slice A n c,.bool false,.slice B 0 d];have hA:=Za (ha.below hB0);have hD:=Za (hb.below hB0);clear ha hb;obtain ⟨a0,a1,a2,a3,-⟩:=q0.four;go_enter Tryz.func37,Tryz.ntmps37;go_wp2_with fail;refine (Za6 hA.out hk).mono ?_;rintro e w1 ⟨rfl,hb1⟩;have hB1:Below w.heap.size w w1:=hB0.trans (hb1.mono hB0.size);replace q0:=Zc hb1 q0;replace hA:=Za (hA.out.below hb1);replace hD:=Za (hD.out.below hb1);clear hW0 a0 a1 a2 a3 hb1;obtain ⟨a0,a1,a2,a3,-⟩:=q0.four;go_wp2_with fail;refine (Za6 hD.out (by decide)).mono ?_;rintro e w2 ⟨rfl,hb2⟩;have hB2:Below w.heap.size w w2:=hB1.trans (hb2.mono hB1.size);replace q0:=Zc hb2 q0;clear a0 a1 a2 a3 hb2;obtain ⟨a0,a1,a2,a3,-⟩:=q0.four;go_wp2_with fail;go_ret;exact ⟨rfl,hB2⟩
theorem Znd (na:Bool) (A B:Option Addr) (n c m d:Nat) (za zb:Int) (w:World) (h1:Wd w na A n c za) (h2:Wd w false B m d zb) (hp:0 < zb) (hg:Nat.gcd za.natAbs zb.natAbs ≠ 1) :
    Calls Tryz.prog 37 #[.agg #[.bool na,.slice A n c,.bool false,.slice B m d]] w fun e w'=>e=.returned (.int .i64 8)/\Below w.heap.size w w':=by
 have hmx:Tryz.prog.follows .mixedOrders=true:=by kernel_rfl
 have hm0:0 < m:=by rw [<- h2.lim.len];exact length_digits_pos.2 (by omega)
 have hm0':((m:Int) == 0)=false:=by simp;omega
 have hm:=h2.2.1;have hgs:=Zc9 h1.small h2.small;obtain ⟨G,hG0⟩:∃ G,Nat.gcd za.natAbs zb.natAbs=G:=⟨_,rfl⟩;rw [hG0] at hg hgs;replace hg:=Za hg;obtain ⟨W0,hW0,hB0,q0,s0⟩:=Zaw w 29 #[.bool na,.slice A n c,.bool false,.slice B m d];have hA:=Za (And.intro (h1.below hB0) (h2.below hB0));clear h1 h2;obtain ⟨a0,a1,a2,a3,-⟩:=q0.four;replace q0:=Za q0;go_enter Tryz.func37,Tryz.ntmps37;go_wp2_with fail;refine (Za6 hA.out.1.lim hA.out.1.ok).mono ?_;rintro e w1 ⟨rfl,hb1⟩;have hB1:Below w.heap.size w w1:=hB0.trans (hb1.mono hB0.size);replace hA:=Za (And.intro (hA.out.1.below hb1) (hA.out.2.below hb1));replace q0:=Za (Zc hb1 q0.out);clear a0 a1 a2 a3 hb1 hB0 hW0;obtain ⟨a0,a1,a2,a3,-⟩:=q0.out.four;go_wp2_with fail;refine (Za6 hA.out.2.lim hA.out.2.ok).mono ?_;rintro e w2 ⟨rfl,hb2⟩;have hB2:Below w.heap.size w w2:=hB1.trans (hb2.mono hB1.size);replace hA:=Za (And.intro (hA.out.1.below hb2) (hA.out.2.below hb2));replace q0:=Za (Zc hb2 q0.out);clear a0 a1 a2 a3 hb2 hB1;obtain ⟨a0,a1,a2,a3,-⟩:=q0.out.four;go_wp2_with fail;refine (Zi6 na false A B n c m d za zb w2 hA.out.1 hA.out.2).mono ?_;rw [hG0];rintro e w3 ⟨hb3,ng,Ag,kg,cg,code,rfl,hR⟩;have hG:=Za (hR.small (by rw [Int.natAbs_natCast];exact hgs));have hB3:Below w.heap.size w w3:=hB2.trans (hb3.mono hB2.size);clear a0 a1 a2 a3 hb3 hB2 q0 hA hR;obtain ⟨W4,hW4,hB4,q4,kW,kB,s4⟩:=Z5 27 #[.bool ng,.slice Ag kg cg] hB3 hB3.size;replace hG:=Za (kW _ _ _ _ _ hG.out);clear kW kB;obtain ⟨g0,g1,-⟩:=q4.two;replace q4:=Za q4;go_wp2_with fail
 refine Z8 [] (fun W'=>W'.cell? ⟨w3.heap.size,0,none⟩=some (.bool ng)/\W'.cell? ⟨w3.heap.size,1,none⟩=some (.slice Ag kg cg)) hmx ⟨g0,g1⟩ (fun _=>?_);refine Zu5 1 [0] rfl (by kernel_rfl) ⟨g0,g1⟩ ?_
 (refine tk1 (v:=?_) rfl (Or.inl ⟨by kernel_rfl,?_⟩) ?_;rotate_left;(· intro W2 hSw;(try dsimp only at hSw);go_simp;try with_reducible rfl);try simp only [Act.put,putL_a,putL_z,putL_s,putG_a,putG_s,putG_z])
 refine tk0 ?_;refine Ze (i:=1) rfl (by kernel_rfl) (fun K hK=>?_);go_simp;refine (Zdl 1 W4.drew (by omega) (by omega)).mono ?_;rintro e w5 ⟨hb5,n1,A1,k1,c1,rfl,hO⟩;replace hb5:=Zq hb5;have hB5:Below w.heap.size w w5:=hB4.trans (hb5.mono (by show w.heap.size <= W4.heap.size;have:=hB3.size;omega));replace hG:=Za (hG.out.below hb5);replace q4:=Za (Zc hb5 q4.out);clear g0 g1;obtain ⟨g0,g1,-⟩:=q4.out.two;refine hK.out _ _ (fun _=>⟨g0,g1⟩) ?_;clear hK K
 try simp only [Act.put,putL_a,putL_z,putL_s]
 refine Ze (i:=2) rfl (by kernel_rfl) (fun K hK=>?_);go_simp;refine (Zdb ng n1 Ag A1 kg cg k1 c1 _ _ w5 hG.out.lim hO.lim).mono ?_
 have hsm:Ze4 ng n1 (digits (Int.natAbs ((G:Nat):Int))) (digits (Int.natAbs 1))=false:=by have h1:=hG.out.1;have h2:=hO.1;rw [h1,h2];unfold Ze4;have:=hg.out;simp [Zb9,Zbo];omega
 rw [hsm];rintro e w6 ⟨rfl,hb6⟩;have hB6:Below w.heap.size w w6:=hB5.trans (hb6.mono hB5.size);replace q4:=Za (Zc hb6 q4.out);clear g0 g1;obtain ⟨g0,g1,-⟩:=q4.out.two;refine hK.out _ _ (fun _=>⟨g0,g1⟩) ?_;clear hK K
 try simp only [Act.put,putL_a,putL_z,putL_s]
 refine Zu5 1 [3] rfl (by kernel_rfl) ⟨g0,g1⟩ ?_
 (refine tk1 (v:=?_) rfl (Or.inl ⟨by kernel_rfl,?_⟩) ?_;rotate_left;(· intro W2 hSw;(try dsimp only at hSw);go_simp;try with_reducible rfl);try simp only [Act.put,putL_a,putL_z,putL_s,putG_a,putG_s,putG_z])
 refine tk0 ?_;refine Zj (by kernel_rfl) ?_ _;refine OnlyNormal.normal ?_;go_wp2_with fail;go_ret;exact ⟨rfl,hB6⟩
theorem Zn6 (na nb:Bool) (A B:Option Addr) (n c m d:Nat) (la lb:List Nat) (w:World) (ha:Lim w A n c la) (hb:Lim w B m d lb) (x:Bool) (hx:okF na la nb lb=x) :
    Calls Tryz.prog 37 #[.agg #[.bool na,.slice A n c,.bool nb,.slice B m d]] w fun e w'=>e=.returned (.int .i64 (Zft x))/\Below w.heap.size w w':=by
 cases x
 ·simp only [okF,Bool.and_eq_false_iff,Bool.not_eq_false',decide_eq_false_iff_not] at hx
  by_cases h1:okW na la=true
  case neg=>exact Zm9 na nb A B n c m d la lb w ha hb (by simpa using h1)
  by_cases h2:okW nb lb=true
  case neg=>exact Zmj na nb A B n c m d la lb w ha hb h1 (by simpa using h2)
  have hA:=Wd.of_ok ha h1;have hD:=Wd.of_ok hb h2
  cases nb
  ·by_cases hz:0 < lb.length
   ·have e3:sg false (val lb)=(val lb:Nat):=rfl
    rw [e3] at hD;have h2':=(Zhh hb.lt).1 h2;have e2:(sg false (val lb)).natAbs=val lb:=Z6 _ _;rw [e2] at h2'
    have hp:0 < val lb:=by
     rw [h2'.2.2] at hz;exact length_digits_pos.1 hz
    refine Znd na A B n c m d _ _ w hA hD (by omega) ?_;rw [Z6,Int.natAbs_natCast]
    rcases hx with (((hx | hx) | hx) | hx) | hx
    ·rw [h1] at hx;cases hx
    ·rw [h2] at hx;cases hx
    ·cases hx
    ·omega
    ·exact hx
   ·have hl0:lb=[]:=List.eq_nil_of_length_eq_zero (by omega)
    subst hl0;have hm:m=0:=hb.len.symm;subst hm;exact Zm4 na A B n c d la w ha hb h1
  ·exact Zmf na A B n c m d la lb w ha hb h1 h2
 ·exact Zqo na nb A B n c m d _ w (Zmv ha hb hx)
theorem Zl9 (na nb:Bool) (A B:Option Addr) (n c m d:Nat) (w:World) (hn:n <= maxLen) (hm:m <= maxLen) :
    Calls Tryz.prog 42 #[.agg #[.bool na,.slice A n c,.bool nb,.slice B m d]] w fun e w'=>e=.returned (.int .i64 (max n m:Nat))/\Below w.heap.size w w':=by
 unfold maxLen at hn hm;obtain ⟨W0,hW0,hB0,q0,s0⟩:=Zaw w 29 #[.bool na,.slice A n c,.bool nb,.slice B m d];obtain ⟨a0,a1,a2,a3,-⟩:=q0.four
 have hx:max (n:Int) (m:Int)=((max n m:Nat):Int):=by omega
 go_enter Tryz.func42,Tryz.ntmps42;go_wp2_with fail;go_ret;exact ⟨rfl,(by first | exact hB0 | exact Zi hB0 _)⟩
end Go.Proofs.YtaioanjcjijckaaGreat
