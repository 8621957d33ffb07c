/- The reference of linear: Rank, Posdef. Solving by -/
import Derived.Test.YtigdclhagmnopaaGreatZq25
set_option linter.unusedSimpArgs false
set_option linter.unusedVariables false
namespace Go.Proofs.YtigdclhagmnopaaGreat
open Go.RowKit
attribute [local go_sem] Zh
def qM (rs:List RX):List (List Rat):=rs.map fun r=>r.es.map FX.q
theorem Zdx {rs:List RX} (h:Zfa rs=0):0 < rs.length/\rs.length <= 12/\0 < n0R rs/\n0R rs <= 12/\∀ r ∈ rs,r.n=n0R rs/\Zcn r.es=true:=by
 unfold Zfa at h
 split at h
 ·exact absurd h (by decide)
 ·rename_i h1
  split at h
  ·exact absurd h (by decide)
  ·rename_i h2
   split at h
   ·rename_i h3
    rw [List.all_eq_true] at h3
    have hf:∀ r ∈ rs,r.n=n0R rs/\Zcn r.es=true:=fun r hr=>by
     have:=h3 r hr;unfold Zgp at this
     simpa using this
    unfold Zha at h1;simp only [Bool.or_eq_true,decide_eq_true_eq,not_or,Nat.not_lt,Bool.not_eq_true,List.any_eq_false] at h1
    have hne:rs ≠ []:=fun e=>h2 (by rw [e];rfl)
    obtain ⟨r,hr⟩:=List.exists_mem_of_ne_nil rs hne
    have h4:¬ 12 < r.n:=by have:=h1.2 r hr;unfold RX.long at this;simpa using this
    have h5:=hf r hr;exact ⟨List.length_pos_iff.2 hne,h1.1,by omega,by omega,hf⟩
   ·exact absurd h (by decide)
theorem Zpa {es:List FX} (h:Zcn es=true):∀ e ∈ es,e.ok=true:=fun e he=>by
 unfold Zcn at h;rw [List.all_eq_true] at h;have:=h e he;unfold FX.fine at this;rw [Bool.and_eq_true] at this;exact this.2
section
variable {w:World} {A:Option Addr} {n c:Nat} {rs:List RX}
theorem MXL.good (h:MXL w A n c rs) (hE:Zfa rs=0):MFL w A n c (qM rs):=h.mfl fun r hr=>Zpa ((Zdx hE).2.2.2.2 r hr).2
theorem Zso (h:MXL w A n c rs):(qM rs).length=n:=by unfold qM;rw [List.length_map];exact h.1
theorem Zv5 (h:MXL w A n c rs) (hE:Zfa rs=0) (i:Nat) (hi:i < n):((qM rs)[i]?.getD []).length=n0R rs:=by
 unfold qM;have he:=List.getElem?_eq_getElem (l:=rs) (i:=i) (by rw [h.1];exact hi);rw [List.getElem?_map,he];simp only [Option.map_some,Option.getD_some,List.length_map];have hm:=List.getElem_mem (l:=rs) (n:=i) (by rw [h.1];exact hi);rw [(h.2.2.2.1 _ hm).1,((Zdx hE).2.2.2.2 _ hm).1]
end
def Zfk (Q:List (List Rat)) (j:Nat):List (List Rat):=(Q.take j).map (List.take j)
def pdB (Q:List (List Rat)):Bool:=decide (∀ i,i < Q.length->∀ k,k < i->Zn Q i k=Zn Q k i) && decide (∀ j,j < Q.length->0 < Zhy (Zfk Q (j+1)))
theorem pdB_sym {Q:List (List Rat)} {i k:Nat} (hi:i < Q.length) (hk:k < i) (h:Zn Q i k ≠ Zn Q k i):pdB Q=false:=by
 unfold pdB;rw [decide_eq_false (fun e=>h (e i hi k hk))];rfl
theorem Zs6 {Q:List (List Rat)} {j:Nat} (hj:j < Q.length) (h:¬ 0 < Zhy (Zfk Q (j+1))):pdB Q=false:=by
 unfold pdB;rw [decide_eq_false (p:=∀ j,j < Q.length->0 < Zhy (Zfk Q (j+1))) (fun e=>h (e j hj))];simp
theorem Zw3 {Q:List (List Rat)} (h1:∀ i,i < Q.length->∀ k,k < i->Zn Q i k=Zn Q k i) (h2:∀ j,j < Q.length->0 < Zhy (Zfk Q (j+1))):pdB Q=true:=by
 unfold pdB;rw [decide_eq_true h1,decide_eq_true h2];rfl
def Zg4 (rs:List RX) (j i:Nat):List RS:=(rs.take i).map fun r=>⟨r.A,j,r.c⟩
theorem RowS.mfl {tS:TypeId} {w:World} {base:Nat} {v:Value} {rs:List RS} {Q:List (List Rat)} (h:RowS tS w base v rs) (hl:rs.length=Q.length) (hF:∀ (i:Nat) (r:RS),rs[i]?=some r->FL w r.A r.n r.c (Q[i]?.getD [])):∃ A c,v=.slice A rs.length c/\MFL w A rs.length c Q:=by
 rcases h with ⟨rfl,rfl⟩ | ⟨g,sp,rfl,h2,h3,h4⟩
 ·exact ⟨none,0,rfl,hl.symm,Nat.le_refl _,Nat.zero_le _,fun h=>absurd h (by simp)⟩
 ·refine ⟨_,_,rfl,hl.symm,by omega,h3,fun _=>⟨g,0,rfl,fun k q hq=>?_⟩⟩
  have hk:k < rs.length:=by rw [hl];exact (List.getElem?_eq_some_iff.1 hq).1
  have he:=List.getElem?_eq_getElem hk;refine ⟨rs[k].A,rs[k].n,rs[k].c,?_,?_⟩
  ·rw [Nat.zero_add,h4.cell]
   exact Zbw (e:=rs[k]) (by rw [List.getElem?_append_left hk];exact he)
  ·have:=hF k _ he
   rw [hq] at this;exact this
theorem Fr.pos_iff {w:World} {na:Bool} {A:Option Addr} {n c:Nat} {nb:Bool} {B:Option Addr} {m d:Nat} {r:Rat} (h:Fr w na A n c nb B m d r):(na=false/\n ≠ 0) ↔ 0 < r:=by
 have h1:=h.1.1;have h2:=h.zero_iff
 constructor
 ·rintro ⟨h3,h4⟩
  rw [h3] at h1
  have h5:¬ r.num < 0:=by simpa using h1.symm
  have h6:r.num ≠ 0:=fun e=>h4 (h2.2 (Rat.num_eq_zero.1 e))
  have h7:0 <= r.num:=by omega
  have h8:0 <= r:=Rat.num_nonneg.1 h7
  have h9:(0:Rat) ≠ r:=fun e=>h6 (by rw [<- e];rfl)
  exact Rat.lt_of_le_of_ne h8 h9
 ·intro h3
  have h5:=Rat.num_nonneg.2 (Rat.le_of_lt h3);refine ⟨by rw [h1];exact decide_eq_false (by omega),fun e=>?_⟩;have:=h2.1 e;rw [this] at h3;exact absurd h3 (by decide)
def upS (E X:Nat->Nat->Rat) (i k t:Nat):Rat:=E i k - sumQ t (fun j=>if i < j then E i j * X j k else 0)
theorem Zw9 (E X:Nat->Nat->Rat) (i k t:Nat) (h:t <= i+1):upS E X i k t=E i k:=by
 unfold upS
 have:sumQ t (fun j=>if i < j then E i j * X j k else 0)=0:=by
  induction t with
  | zero=>rfl
  | succ t ih=>simp only [sumQ];rw [ih (by omega),if_neg (by omega)];grind
 rw [this];grind
theorem Zvl (E X:Nat->Nat->Rat) {i k t:Nat} (h:i < t):upS E X i k (t+1)=upS E X i k t - E i t * X t k:=by
 unfold upS;simp only [sumQ];rw [if_pos h];grind
def Zfc (E X:Nat->Nat->Rat) (n m:Nat):Prop:=
 (∀ i,i < n->E i i ≠ 0)/\(∀ i k,i < n->n <= k->k < m->X i k=upS E X i k n / E i i)/\(∀ i j,SmN 300 300 (E i j))/\(∀ i k,SmN 300 300 (X i k))/\∀ i k t,SmN 400 400 (upS E X i k t)
def Ziw (X:Nat->Nat->Rat) (n m:Nat):List (List Rat):=(List.range n).map fun i=>(List.range (m - n)).map fun c=>X i (n+c)
theorem Zub {E X X':Nat->Nat->Rat} {i k t:Nat} (h:∀ j,i < j->j < t->X j k=X' j k):upS E X i k t=upS E X' i k t:=by
 unfold upS
 congr 1
 refine Zm fun j hj=>?_
 by_cases hij:i < j
 ·rw [if_pos hij,if_pos hij,h j hij hj]
 ·rw [if_neg hij,if_neg hij]
theorem Zum {E E' X:Nat->Nat->Rat} {i k t:Nat} {c:Rat} (h:∀ j,E' i j=c * E i j):upS E' X i k t=c * upS E X i k t:=by
 unfold upS
 have:sumQ t (fun j=>if i < j then E' i j * X j k else 0)=c * sumQ t (fun j=>if i < j then E i j * X j k else 0):=by
  have h1:=Zep (n:=t) (fun j=>if i < j then E i j * X j k else 0) (fun _=>0) c 0;rw [show c * sumQ t (fun j=>if i < j then E i j * X j k else 0)=c * sumQ t (fun j=>if i < j then E i j * X j k else 0)+0 * sumQ t (fun _=>0) by grind,<- h1]
  refine Zm fun j _=>?_
  by_cases hij:i < j
  ·rw [if_pos hij,if_pos hij,h];grind
  ·rw [if_neg hij,if_neg hij];grind
 rw [this,h];grind
theorem Zpb {E X:Nat->Nat->Rat} {n i k t:Nat} (hX:∀ j,n <= j->X j k=0) (h:n <= t):upS E X i k t=upS E X i k n:=by
 unfold upS
 congr 1
 induction t with
 | zero=>obtain rfl:n=0:=by omega
         rfl
 | succ t ih =>
  by_cases hn:n=t+1
  ·rw [hn]
  ·simp only [sumQ]
   rw [ih (by omega)]
   by_cases hit:i < t
   ·rw [if_pos hit,hX t (by omega)];grind
   ·rw [if_neg hit];grind
theorem Zmb {n:Nat} (E:Nat->Nat->Rat):∀ t,t <= n->∃ X:Nat->Nat->Rat,(∀ i k,n - t <= i->i < n->X i k=upS E X i k n / E i i)/\∀ i k,n <= i->X i k=0
 | 0,_=>⟨fun _ _=>0,fun i k h1 h2=>by omega,fun _ _ _=>rfl⟩
 | t+1,ht=>by
  obtain ⟨X,h1,h2⟩:=Zmb (n:=n) E t (by omega);refine ⟨fun i k=>if i=n - (t+1) then upS E X i k n / E i i else X i k,fun i k hi hn=>?_,fun i k hi=>?_⟩
  ·have hc:upS E (fun i k=>if i=n - (t+1) then upS E X i k n / E i i else X i k) i k n=upS E X i k n:=Zub fun j hj hjn=>by
     rw [if_neg (by omega)]
   rw [hc];show (if i=n - (t+1) then upS E X i k n / E i i else X i k)=_
   by_cases hit:i=n - (t+1)
   ·rw [if_pos hit]
   ·rw [if_neg hit];exact h1 i k (by omega) hn
  ·show (if i=n - (t+1) then _ else _)=_
   rw [if_neg (by omega)];exact h2 i k hi
theorem Zrq {n:Nat} {E X:Nat->Nat->Rat} {i k:Nat} (hi:i < n) (hlow:∀ j,j < i->E i j=0) (hd:E i i ≠ 0) (hX:X i k=upS E X i k n / E i i):sumQ n (fun j=>E i j * X j k)=E i k:=by
 have h1:E i i * X i k=upS E X i k n:=by rw [hX];grind
 unfold upS at h1
 have h2:sumQ n (fun j=>E i j * X j k)=sumQ n (fun j=>if j=i then E i i * X i k else 0)+sumQ n (fun j=>if i < j then E i j * X j k else 0):=by
  have:=Zep (n:=n) (fun j=>if j=i then E i i * X i k else 0) (fun j=>if i < j then E i j * X j k else 0) 1 1;rw [show ∀ a b:Rat,a+b=1 * a+1 * b by intro a b;grind,<- this]
  refine Zm fun j _=>?_
  rcases Nat.lt_trichotomy j i with h | h | h
  ·rw [hlow j h,if_neg (by omega),if_neg (by omega)];grind
  ·subst h;rw [if_pos rfl,if_neg (Nat.lt_irrefl _)];grind
  ·rw [if_neg (by omega),if_pos h];grind
 rw [h2,Zhe i hi (fun j _ hj=>if_neg hj),if_pos rfl,h1];grind
def Zmm (R:List (List Rat)) (m:Nat) (x:Nat->Rat) (i:Nat):Rat:=sumQ m (fun j=>Zn R i j * x j)
theorem Zjx {n m:Nat} (x:Nat->Rat):∀ (f col r:Nat) (R:List (List Rat)) (neg:Bool),R.length=n->(∀ i,i < n->(R[i]?.getD []).length=m)->r <= n->(∀ i j,r <= i->i < n->j < col->Zn R i j=0) ->
    (∀ i,i < n->Zmm (Zak f col r R neg).1 m x i=0)->∀ i,i < n->Zmm R m x i=0
 | 0,col,r,R,neg,_,_,_,_,h=>h
 | f+1,col,r,R,neg,hl,hrow,hr,hlow,h=>by
  unfold Zak at h;rw [hl] at h
  by_cases hrn:r=n
  ·simp only [if_pos hrn] at h;exact h
  ·simp only [if_neg hrn] at h
   obtain ⟨q,hq⟩:∃ q,Zbe (fun i=>Zn R i col == 0) n n r=q:=⟨_,rfl⟩;obtain ⟨p1,p2,p3,p4⟩:=Zeu (z:=fun i=>Zn R i col == 0) (n:=n) (f:=n) (k:=r) (by omega) (by omega);rw [hq] at p1 p2 p3 p4;rw [hq] at h
   by_cases hqn:q=n
   ·simp only [if_pos hqn] at h
    refine Zjx x f (col+1) r R neg hl hrow hr (fun i j h1 h2 h3=>?_) h
    by_cases hj:j=col
    ·rw [hj];simpa using p3 i h1 (by omega)
    ·exact hlow i j h1 h2 (by omega)
   ·simp only [if_neg hqn] at h
    have hqn':q < n:=by omega
    have hpv:Zn R q col ≠ 0:=by simpa using p4 hqn'
    have hsl:(Zai R q r).length=n:=by rw [Zdz,hl]
    have hsrow:∀ i,i < (Zai R q r).length->((Zai R q r)[i]?.getD []).length=m:=fun i hi=>by
     rw [hsl] at hi;rw [Zdg (by omega) (by omega)];exact hrow _ (Zg8 hqn' (by omega) hi)
    have hes:∀ i j,Zn (Zai R q r) i j=Zn R (swI q r i) j:=fun i j=>Zhr (by omega) (by omega) i j
    have hslow:∀ i j,r <= i->i < n->j < col->Zn (Zai R q r) i j=0:=fun i j h1 h2 h3=>by
     rw [hes];exact hlow _ j (Zo5 p1 h1) (Zg8 hqn' (by omega) h2) h3
    have hsr:swI q r r=q:=by unfold swI;split
                             ·rename_i e;exact e
                             ·rw [if_pos rfl]
    have hpr:Zn (Zai R q r) r col ≠ 0:=by rw [hes,hsr];exact hpv
    have hec:∀ i j,i < n->Zn (Zcr (Zai R q r) r col) i j=if i <= r then Zn (Zai R q r) i j else Zn (Zai R q r) i j - Zn (Zai R q r) i col / Zn (Zai R q r) r col * Zn (Zai R q r) r j:=
     fun i j hi=>Zik (m:=m) hsrow (fun j hj=>hslow r j (Nat.le_refl _) (by omega) hj) i j (by omega) (by omega)
    have ih:=Zjx x f (col+1) (r+1) (Zcr (Zai R q r) r col) _ (by rw [Zk9,hsl]) (fun i hi=>by rw [Zlt i (by omega)];exact hsrow i (by omega)) (by omega) (fun i j h1 h2 h3=>by
     rw [hec i j h2,if_neg (by omega)]
     by_cases hj:j=col
     ·rw [hj];grind
     ·rw [hslow i j (by omega) h2 (by omega),hslow r j (Nat.le_refl _) (by omega) (by omega)];grind) h
    have hdr:Zmm (Zai R q r) m x r=0:=by
     have:=ih r (by omega);unfold Zmm at this ⊢;rw [<- this]
     refine Zm fun j _=>by rw [hec r j (by omega),if_pos (Nat.le_refl _)]
    have hds:∀ i,i < n->Zmm (Zai R q r) m x i=0:=fun i hi=>by
     have h1:=ih i hi
     by_cases hir:i <= r
     ·unfold Zmm at h1 ⊢
      rw [<- h1]
      exact Zm fun j _=>by rw [hec i j hi,if_pos hir]
     ·unfold Zmm at h1 hdr ⊢
      have h2:=Zep (n:=m) (fun j=>Zn (Zai R q r) i j * x j) (fun j=>Zn (Zai R q r) r j * x j) 1 (-(Zn (Zai R q r) i col / Zn (Zai R q r) r col));rw [hdr] at h2
      have h3:sumQ m (fun j=>Zn (Zcr (Zai R q r) r col) i j * x j)=sumQ m (fun j=>1 * (Zn (Zai R q r) i j * x j)+-(Zn (Zai R q r) i col / Zn (Zai R q r) r col) * (Zn (Zai R q r) r j * x j)):=
       Zm fun j _=>by rw [hec i j hi,if_neg hir];grind
      rw [h3,h2] at h1
      grind
    intro i hi;have:=hds (swI q r i) (Zg8 hqn' (by omega) hi);unfold Zmm at this ⊢;rw [<- this]
    exact Zm fun j _=>by rw [hes,Zox]
theorem BndQ.sub {B C:Nat} {p q:Rat} (h:BndQ B p) (k:BndQ C q):BndQ (B+C) (p - q):=by
 obtain ⟨a,rfl,ha⟩:=h;obtain ⟨b,rfl,hb⟩:=k;exact ⟨a - b,by rw [Rat.intCast_sub],by omega⟩
theorem BndQ.zero {B:Nat}:BndQ B 0:=⟨0,rfl,by simp⟩
def SolQ (Q X:Nat->Nat->Rat) (n m:Nat):Prop:=∀ i k,i < n->n <= k->k < m->sumQ n (fun j=>Q i j * X j k)=Q i k
theorem Zsv {n m:Nat} {f:Nat->Rat} {k:Nat} (hk:n <= k) (hm:k < m) (h:∀ j,n <= j->j ≠ k->f j=0):sumQ m f=sumQ n f+f k:=by
 induction m with
 | zero=>omega
 | succ m ih =>
  simp only [sumQ]
  by_cases hkm:k=m
  ·subst hkm
   congr 1
   have:∀ t,n+t <= k->sumQ (n+t) f=sumQ n f:=by
    intro t
    induction t with
    | zero=>intro _;rfl
    | succ t iht=>intro ht;rw [<- Nat.add_assoc];simp only [sumQ];rw [iht (by omega),h (n+t) (by omega) (by omega)];grind
   have h1:=this (k - n) (by omega);rw [show n+(k - n)=k by omega] at h1;exact h1
  ·rw [ih (by omega),h m (by omega) (by omega)];grind
section
variable {B S n m:Nat}
theorem Zmc (hB:1 <= B) (hS:1 <= S) (R:List (List Rat)) (hl:R.length=n) (hrow:∀ i,i < n->(R[i]?.getD []).length=m) (hs:∀ i,i < n->denAt R i <= S) (hBd:∀ i j,i < n->(Zaf (Zt R) i j).natAbs <= B) (hnm:n <= m)
    (g1:(n+1) * (Za1 B n * Za1 B n) < pw 400) (g2:Za1 B n * Za1 B n * S < pw 400) (g3:Za1 B n * S < pw 300) :
    okZ (Za1 B n+1) m n 0 0 (Zt R) 1/\okR (Za1 B n+1) (Za1 B n * S+1) m n 0 0 R /\
    (Zae n 0 0 (Zt R) false 1).2.1=(Zak n 0 0 R false).2.1/\(Zak n 0 0 R false).2.1 <= n /\
    ((Zak n 0 0 R false).2.1 < n->Z1 n (Zn R)=0) /\
    ((Zak n 0 0 R false).2.1=n->Z1 n (Zn R) ≠ 0/\∃ X:Nat->Nat->Rat,Zfc (Zn (Zak n 0 0 R false).1) X n m/\Zfc (fun i j=>(Zaf (Zae n 0 0 (Zt R) false 1).1 i j:Rat)) X n m/\SolQ (Zn R) X n m/\∀ i k,(X i k).num.natAbs <= Za1 B n/\(X i k).den <= Za1 B n):=by
 obtain ⟨h1,h2⟩:=Ziq R hl hrow hs hBd;obtain ⟨o1,o2,o3,o4,col',pc',G',s',o5,o6,o7,o8,o9⟩:=Zfn hB hS n 0 0 R _ _ _ _ false 1 h1 h2 (by omega)
 have hby:((byZ R n:Nat):Rat) ≠ 0:=by
  intro h;have:byZ R n=0:=by exact_mod_cast h
  have:=Zfz R n;omega
 have hdG:=o9 (fun b=>b);rw [Zk7 (fun a b=>Zn R a b) (fun a=>((denAt R a:Nat):Rat)),<- Zje] at hdG;have hs1:sgB false=1:=rfl;rw [hs1] at hdG
 have hsq:∀ b,sgB b * sgB b=1:=by intro b;cases b <;> simp [sgB] <;> grind
 refine ⟨o1,o2,o3,o5.rn,fun hr=>?_,fun hr=>?_⟩
 ·have hE:=o5.det n (fun b=>b) (fun a=>a) (fun a ha=>ha) (fun a _=>rfl) (fun a ha=>ha)
  have hcn:col'=n:=by omega
  have h0:Z1 n (fun a b=>s' a * Zn (Zak n 0 0 R false).1 a b)=0:=by
   rw [Zfj]
   ·refine Zl0 (k:=n - 1) (by omega) ?_
    rw [o5.low (n - 1) (n - 1) (by omega) (by omega) (by omega)];grind
   ·intro a b ha hb
    by_cases har:a < (Zak n 0 0 R false).2.1
    ·have:∀ l,l < (Zak n 0 0 R false).2.1->l <= pc' l:=by
       intro l
       induction l with
       | zero=>intro _;omega
       | succ l ih=>intro hl;have:=ih (by omega);have:=o5.inc l (l+1) (by omega) hl;omega
     have:=this a har;rw [o5.bef a b har (by omega)];grind
    ·rw [o5.low a b (by omega) ha (by omega)];grind
  rw [hE] at h0;rw [h0] at hdG
  have:((byZ R n:Nat):Rat) * Z1 n (Zn R)=0:=by grind
  rcases Rat.mul_eq_zero.1 this with h | h
  ·exact absurd h hby
  ·exact h
 ·rw [hr] at o5 o6
  have hcol:col' <= n:=by omega
  have hdiag:∀ l,l < n->pc' l=l:=fun l hl=>o5.diag hcol hl
  obtain ⟨E,hEe⟩:∃ E,Zn (Zak n 0 0 R false).1=E:=⟨_,rfl⟩
  have hElow:∀ i j,i < n->j < i->E i j=0:=fun i j hi hj=>by rw [<- hEe];exact o5.bef i j hi (by rw [hdiag i hi];exact hj)
  have hEd:∀ i,i < n->E i i ≠ 0:=fun i hi=>by have:=o5.piv i hi;rw [hdiag i hi] at this;rw [<- hEe];exact this
  have hEout:∀ i j,n <= i->E i j=0:=fun i j hi=>by rw [<- hEe];unfold Zn;rw [List.getElem?_eq_none (l:=(Zak n 0 0 R false).1) (by rw [o5.len];exact hi)];rfl
  have hEcol:∀ i j,i < n->m <= j->E i j=0:=fun i j hi hj=>by rw [<- hEe];exact Zpv o5.row hi hj
  have hs0:∀ i,i < n->s' i ≠ 0:=fun i hi=>(o5.sB i hi).2
  -- the determinant
  obtain ⟨D,hD⟩:∃ D,Z1 n (fun a b=>G' a b)=D:=⟨_,rfl⟩
  have hDE:Z1 n (fun a b=>s' a * E a b)=D:=by
   have:=o5.det n (fun b=>b) (fun a=>a) (fun a ha=>ha) (fun a _=>rfl) (fun a ha=>ha);rw [<- hD,<- this,hEe]
  have hD0:D ≠ 0:=by
   rw [<- hDE,Zfj (fun a b ha hb=>by rw [hElow a b ha hb];grind)];intro h0
   have hp:∀ t,t <= n->Zap t (fun i=>s' i * E i i) ≠ 0:=by
    intro t
    induction t with
    | zero=>intro _ h;simp only [Zap] at h;revert h;decide
    | succ t ih =>
     intro ht h;simp only [Zap] at h
     rcases Rat.mul_eq_zero.1 h with h | h
     ·exact ih (by omega) h
     ·rcases Rat.mul_eq_zero.1 h with h | h
      ·exact hs0 t (by omega) h
      ·exact hEd t (by omega) h
   exact hp n (Nat.le_refl _) h0
  have hDb:BndQ (Za1 B n) D:=by rw [<- hD];exact Zgw fun a b ha hb=>o5.gB a b ha
  obtain ⟨X,hX,hXout⟩:=Zmb (n:=n) E n (Nat.le_refl _)
  replace hX:∀ i k,i < n->X i k=upS E X i k n / E i i:=fun i k hi=>hX i k (by omega) hi
  have hES:∀ i k,i < n->sumQ n (fun j=>E i j * X j k)=E i k:=fun i k hi=>Zrq hi (fun j hj=>hElow i j hi hj) (hEd i hi) (hX i k hi)
  have hXD:∀ i k,i < n->BndQ (Za1 B n) (D * X i k):=fun i k hi=>by
   have hc:=Zou (fun a b=>s' a * E a b) (fun j=>X j k) (fun a=>s' a * E a k) (fun a ha=>by
    have:=Zep (n:=n) (fun j=>E a j * X j k) (fun _=>0) (s' a) 0;rw [hES a k ha] at this;rw [show s' a * E a k=s' a * E a k+0 * sumQ n (fun _=>0) by grind,<- this]
    exact Zm fun j _=>by grind) hi
   rw [hDE] at hc;rw [hc];have:=o5.det n (fun b=>if b=i then k else b) (fun a=>a) (fun a ha=>ha) (fun a _=>rfl) (fun a ha=>ha);rw [hEe] at this
   rw [<- Zau (M:=fun a b=>s' a * E a (if b=i then k else b)) (fun a b _ _=>by
    by_cases hb:b=i
    ·rw [if_pos hb,if_pos hb]
    ·rw [if_neg hb,if_neg hb]),this]
   exact Zgw fun a b ha hb=>o5.gB a _ ha
  have hXb:∀ i k,(X i k).num.natAbs <= Za1 B n/\(X i k).den <= Za1 B n:=fun i k=>by
   have hb1:1 <= Za1 B n:=Zcw (m:=0) hB (by omega)
   by_cases hi:i < n
   ·exact Ze4 (hXD i k hi) hDb hD0
   ·rw [hXout i k (by omega)];exact ⟨Nat.zero_le _,hb1⟩
  have hb1:1 <= Za1 B n:=Zcw (m:=0) hB (by omega);have hbS:Za1 B n <= Za1 B n * S:=Nat.le_mul_of_pos_right _ hS
  obtain ⟨P,hP⟩:∃ P:Nat->Rat,P=fun i=>Zeb (Zak n 0 0 R false).1 pc' s' i * s' i:=⟨_,rfl⟩
  have hP0:∀ i,i < n->P i ≠ 0:=fun i hi h0=>by
   rw [hP] at h0
   rcases Rat.mul_eq_zero.1 h0 with h | h
   ·exact o5.piv_ne (l:=i) (by omega) h
   ·exact hs0 i hi h
  have hPb:∀ i,i < n->BndQ (Za1 B n * S) (P i):=fun i hi=>by
   rw [hP];have h5:=o5.pivL_bnd (l:=i) (by omega);have h6:=Zcw hB (show i <= n by omega);exact (h5.mul (o5.sB i hi).1).mono (Nat.mul_le_mul h6 (Nat.le_refl _))
  have hPE:∀ i j,i < n->BndQ (Za1 B n) (P i * E i j):=fun i j hi=>by
   have h5:=o5.minor hi j;rw [show min i n=i by omega,hEe] at h5;rw [hP]
   have:Zeb (Zak n 0 0 R false).1 pc' s' i * s' i * E i j=Zeb (Zak n 0 0 R false).1 pc' s' i * (s' i * E i j):=by grind
   rw [this];exact h5.mono (Zcw hB (by omega))
  have hup:∀ i k t,i < n->t <= n->BndQ ((n+1) * (Za1 B n * Za1 B n)) (P i * D * upS E X i k t):=fun i k t hi ht=>by
   have e:P i * D * upS E X i k t=P i * E i k * D - sumQ t (fun j=>if i < j then (P i * E i j) * (D * X j k) else 0):=by
    unfold upS;have:=Zep (n:=t) (fun j=>if i < j then E i j * X j k else 0) (fun _=>0) (P i * D) 0
    have h5:sumQ t (fun j=>if i < j then (P i * E i j) * (D * X j k) else 0)=P i * D * sumQ t (fun j=>if i < j then E i j * X j k else 0)+0 * sumQ t (fun _=>0):=by
     rw [<- this]
     refine Zm fun j _=>?_
     by_cases hij:i < j
     ·rw [if_pos hij,if_pos hij];grind
     ·rw [if_neg hij,if_neg hij];grind
    rw [h5];grind
   rw [e]
   have hsum:BndQ (t * (Za1 B n * Za1 B n)) (sumQ t (fun j=>if i < j then (P i * E i j) * (D * X j k) else 0)):=Zq0 fun j hj=>by
    by_cases hij:i < j
    ·rw [if_pos hij];exact (hPE i j hi).mul (hXD j k (by omega))
    ·rw [if_neg hij];exact BndQ.zero
   refine (((hPE i k hi).mul hDb).sub hsum).mono ?_;rw [Nat.add_mul,Nat.one_mul,Nat.add_comm];exact Nat.add_le_add_right (Nat.mul_le_mul ht (Nat.le_refl _)) _
  have hPD:∀ i,i < n->BndQ (Za1 B n * Za1 B n * S) (P i * D):=fun i hi=>by
   refine ((hPb i hi).mul hDb).mono ?_;rw [Nat.mul_right_comm];exact Nat.le_refl _
  have hupb:∀ i k t,SmN 400 400 (upS E X i k t):=fun i k t=>by
   by_cases hi:i < n
   ·rcases Nat.le_total t n with ht | ht
    ·have:=Ze4 (hup i k t hi ht) (hPD i hi) (fun h0=>by
       rcases Rat.mul_eq_zero.1 h0 with h | h
       ·exact hP0 i hi h
       ·exact hD0 h)
     exact ⟨Nat.lt_of_le_of_lt this.1 g1,Nat.lt_of_le_of_lt this.2 g2⟩
    ·rw [Zpb (fun j hj=>hXout j k hj) ht]
     have:=Ze4 (hup i k n hi (Nat.le_refl _)) (hPD i hi) (fun h0=>by
      rcases Rat.mul_eq_zero.1 h0 with h | h
      ·exact hP0 i hi h
      ·exact hD0 h)
     exact ⟨Nat.lt_of_le_of_lt this.1 g1,Nat.lt_of_le_of_lt this.2 g2⟩
   ·have:upS E X i k t=0:=by
      unfold upS
      rw [hEout i k (by omega),Zdi (fun j _=>by
       by_cases hij:i < j
       ·rw [if_pos hij,hEout i j (by omega)];grind
       ·rw [if_neg hij])]
      grind
    rw [this];exact ⟨Zbt _,by show 1 < pw 400;exact Nat.lt_of_lt_of_le Zem (Zbk (by decide))⟩
  have hXs:∀ i k,SmN 300 300 (X i k):=fun i k=>⟨Nat.lt_of_le_of_lt (hXb i k).1 (Nat.lt_of_le_of_lt hbS g3),Nat.lt_of_le_of_lt (hXb i k).2 (Nat.lt_of_le_of_lt hbS g3)⟩
  have hEs:∀ i j,SmN 300 300 (E i j):=fun i j=>by
   by_cases hi:i < n
   ·have:=Ze4 (hPE i j hi) (hPb i hi) (hP0 i hi)
    exact ⟨Nat.lt_of_le_of_lt this.1 (Nat.lt_of_le_of_lt hbS g3),Nat.lt_of_le_of_lt this.2 g3⟩
   ·rw [hEout i j (by omega)];exact ⟨Zbt _,by show 1 < pw 300;exact Nat.lt_of_lt_of_le Zem (Zbk (by decide))⟩
  have hZE:∀ i j,i < n->(Zaf (Zae n 0 0 (Zt R) false 1).1 i j:Rat)=P i * E i j:=fun i j hi=>by
   rw [o6.ent i j hi,show min i n=i by omega,hEe,hP];grind
  have hZout:∀ i j,n <= i->(Zaf (Zae n 0 0 (Zt R) false 1).1 i j:Rat)=0:=fun i j hi=>by
   unfold Zaf;rw [List.getElem?_eq_none (l:=(Zae n 0 0 (Zt R) false 1).1) (by rw [o6.len];exact hi)];rfl
  refine ⟨?_,X,?_,?_,?_,hXb⟩
  ·intro h0
   rw [hD] at hdG;rw [h0] at hdG;have hq:=hsq (Zak n 0 0 R false).2.2
   apply hD0
   have:sgB (Zak n 0 0 R false).2.2 * (sgB (Zak n 0 0 R false).2.2 * D)=0:=by rw [hdG];grind
   grind
  ·rw [hEe]
   exact ⟨hEd,fun i k hi _ _=>hX i k hi,hEs,hXs,hupb⟩
  ·have hsc:∀ i k t,i < n->upS (fun i j=>(Zaf (Zae n 0 0 (Zt R) false 1).1 i j:Rat)) X i k t=P i * upS E X i k t:=fun i k t hi=>Zum (E:=E) fun j=>hZE i j hi
   refine ⟨fun i hi=>?_,fun i k hi _ _=>?_,fun i j=>?_,hXs,fun i k t=>?_⟩
   ·show (Zaf (Zae n 0 0 (Zt R) false 1).1 i i:Rat) ≠ 0
    rw [hZE i i hi];intro h0
    rcases Rat.mul_eq_zero.1 h0 with h | h
    ·exact hP0 i hi h
    ·exact hEd i hi h
   ·show X i k=upS (fun i j=>(Zaf (Zae n 0 0 (Zt R) false 1).1 i j:Rat)) X i k n / (Zaf (Zae n 0 0 (Zt R) false 1).1 i i:Rat)
    rw [hsc i k n hi,hZE i i hi,hX i k hi];have a1:=hP0 i hi;have a2:=hEd i hi
    grind
   ·by_cases hi:i < n
    ·obtain ⟨z,hz1,hz2⟩:=hPE i j hi
     show SmN 300 300 (Zaf (Zae n 0 0 (Zt R) false 1).1 i j:Rat);rw [hZE i j hi,hz1];exact (SmN.int (i:=300) (Nat.lt_of_le_of_lt hz2 (Nat.lt_of_le_of_lt hbS g3))).mono (by decide) (by decide)
    ·show SmN 300 300 (Zaf (Zae n 0 0 (Zt R) false 1).1 i j:Rat)
     rw [hZout i j (by omega)];exact ⟨Zbt _,by show 1 < pw 300;exact Nat.lt_of_lt_of_le Zem (Zbk (by decide))⟩
   ·have key:∀ t,i < n->t <= n->SmN 400 400 (P i * upS E X i k t):=fun t hi ht=>by
      have h5:=hup i k t hi ht
      have e:P i * D * upS E X i k t=D * (P i * upS E X i k t):=by grind
      rw [e] at h5;have:=Ze4 h5 hDb hD0;have hbb:Za1 B n <= Za1 B n * Za1 B n * S:=Nat.le_trans (Nat.le_mul_of_pos_right _ hb1) (Nat.le_mul_of_pos_right _ hS);exact ⟨Nat.lt_of_le_of_lt this.1 g1,Nat.lt_of_le_of_lt this.2 (Nat.lt_of_le_of_lt hbb g2)⟩
    by_cases hi:i < n
    ·rw [hsc i k t hi]
     rcases Nat.le_total t n with ht | ht
     ·exact key t hi ht
     ·rw [Zpb (fun j hj=>hXout j k hj) ht];exact key n hi (Nat.le_refl _)
    ·have:upS (fun i j=>(Zaf (Zae n 0 0 (Zt R) false 1).1 i j:Rat)) X i k t=0:=by
       unfold upS
       have hz:∀ j,(Zaf (Zae n 0 0 (Zt R) false 1).1 i j:Rat)=0:=fun j=>hZout i j (by omega)
       simp only [hz]
       rw [Zdi (fun j _=>by
        by_cases hij:i < j
        ·rw [if_pos hij];grind
        ·rw [if_neg hij])]
       grind
     rw [this];exact ⟨Zbt _,by show 1 < pw 400;exact Nat.lt_of_lt_of_le Zem (Zbk (by decide))⟩
  ·intro i k hi hk hkm
   have hv:∀ (F:Nat->Rat),sumQ m (fun j=>F j * (if j < n then X j k else if j=k then -1 else 0))=sumQ n (fun j=>F j * X j k) - F k:=fun F=>by
    have h1:=Zsv (n:=n) (m:=m) (f:=fun j=>F j * (if j < n then X j k else if j=k then -1 else 0)) (k:=k) hk hkm (fun j h1 h2=>by
     show F j * (if j < n then X j k else if j=k then -1 else 0)=0
     rw [if_neg (show ¬ j < n by omega),if_neg h2];grind)
    have h2:sumQ n (fun j=>F j * (if j < n then X j k else if j=k then -1 else 0))=sumQ n (fun j=>F j * X j k):=Zm fun j hj=>by
     show F j * (if j < n then X j k else if j=k then -1 else 0)=F j * X j k;rw [if_pos hj]
    have h3:F k * (if k < n then X k k else if k=k then -1 else 0)=- F k:=by
     rw [if_neg (show ¬ k < n by omega),if_pos rfl];grind
    rw [h1,h2,h3];grind
   have hker:=Zjx (n:=n) (m:=m) (fun j=>if j < n then X j k else if j=k then -1 else 0) n 0 0 R false hl hrow (Nat.zero_le _) (fun _ j _ _ hj=>by omega) (fun i hi=>by
    unfold Zmm;have h1:=hv (fun j=>E i j);rw [hEe];rw [hES i k hi] at h1
    rw [h1];grind) i hi
   unfold Zmm at hker;have h1:=hv (fun j=>Zn R i j);rw [hker] at h1
   grind
end
theorem FL.drop {w:World} {A:Option Addr} {n c:Nat} {qs:List Rat} (h:FL w A n c qs) {g o:Nat} (hA:A=some ⟨g,o,none⟩) {k:Nat} (hk:k <= n):FL w (some ⟨g,o+k * 4,none⟩) (n - k) (c - k) (qs.drop k):=by
 obtain ⟨es,h1,h2,h3,h4,rfl,h5⟩:=h;refine ⟨es.drop k,by rw [List.length_drop];omega,by omega,by omega,fun e he=>h4 e (List.mem_of_mem_drop he),by rw [List.map_drop],fun hn=>?_⟩;obtain ⟨g',o',e1,hc⟩:=h5 (by omega);rw [hA] at e1
 obtain ⟨rfl,rfl⟩:g=g'/\o=o':=by cases e1;exact ⟨rfl,rfl⟩
 refine ⟨g,o+k * 4,rfl,fun j e he=>?_⟩;rw [List.getElem?_drop] at he;have:=hc (k+j) e he;simp only [Nat.add_assoc] at this ⊢;rw [show (k+j) * 4=k * 4+j * 4 by omega] at this;simp only [Nat.add_assoc] at this;exact this
theorem Z2 (a:Bool) (A:Option Addr) (n c:Nat) (b:Bool) (B:Option Addr) (m d:Nat):NoLimb #[.bool a,.slice A n c,.bool b,.slice B m d]:=fun i x=>by
 match i with
 | 0=>simp
 | 1=>simp
 | 2=>simp
 | 3=>simp
 | i+4=>simp
end Go.Proofs.YtigdclhagmnopaaGreat
