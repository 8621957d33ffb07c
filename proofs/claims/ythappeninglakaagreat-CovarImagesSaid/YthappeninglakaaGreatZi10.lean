/- How great the numbers of a matrix are (plain). Elimination -/
import Derived.Deep.LoopGhost
import Derived.Test.YthappeninglakaaGreatZi09
set_option linter.unusedSimpArgs false
set_option linter.unusedVariables false
namespace Go.Proofs.YthappeninglakaaGreat
open Go.RowKit
open List renaming mem_cons_of_mem→Qa,mem_cons_self→Qc,all_eq_true→Qe,getElem?_append_left→Qg,getElem?_eq_getElem→Qh,getElem?_map→Ql,length_map→Qm,length_append→Qp,getElem?_append_right→Qq,mem_of_getElem?→Qr,filter_cons_of_neg→QA,filter_cons_of_pos→QB,mem_singleton→QG,getElem?_set→QH,length_cons→QI,length_singleton→QK,getElem_mem→QQ,map_toArray→QR,foldl_cons→QS,mem_filter→QT,nil_append→QU,length_set→QV
open _root_.Array renaming getD_eq_getD_getElem?→Qb,getElem?_eq_getElem→Qf,getElem?_setIfInBounds_self→Qs,getElem?_eq_none→Qu,setIfInBounds_comm→Qz
open Bool renaming and_eq_true→Qd,not_eq_true'→Qn,or_eq_true→QE,or_eq_false_iff→QL
open Nat renaming le_refl→Qi,le_trans→Qj,lt_of_le_of_lt→Qk,lt_of_lt_of_le→Qt,mul_le_mul→Qv,add_sub_cancel'→Qx,lt_or_ge→QD,zero_le→QF,sub_self→QJ,mul_succ→QN,add_right_comm→QO,zero_add→QP
open Option renaming getD_some→Qo,map_some→QC
open Ne renaming symm→Qw
open Int renaming natAbs_natCast→Qy
open Rat renaming intCast_natCast→QM
theorem Zoj{C C' m:Nat}(hC:C<=C'):∀ (f c r:Nat) (Z:List (List Int)) (la:Int),okZ C m f c r Z la->okZ C' m f c r Z la
 | 0,_,_,_,_,h=>⟨⟨h.1.1,λi j=>Qt (h.1.2 i j) hC⟩,h.2.1,Qt h.2.2 hC⟩
 | f+1,_,_,_,_,h=>⟨⟨h.1.1,λi j=>Qt (h.1.2 i j) hC⟩,⟨h.2.1.1,Qt h.2.1.2 hC⟩,h.2.2.imp id (λ⟨h1,h2⟩=>⟨λe=>Zoj hC f _ _ _ _ (h1 e),λe=>Zoj hC f _ _ _ _ (h2 e)⟩)⟩
theorem pw_pow(k n:Nat):pw k^n=pw (k*n):=by
 induction n with
 | zero=>rfl
 | succ n ih=>rw[Nat.pow_succ,ih,QN,Zb8]
theorem le_pw1{n:Nat}(h:n<=900):n<=pw 1:=by rw[Zaz,Zd1];omega
theorem Zkk{b:Nat}:∀ n,n<=900->Zbo (pw b) n<=pw ((b+1)*n)
 | 0,_=>Qi _
 | n+1,h=>by
  have h1:=Zkk (b:=b) n Gk;have h2:(n+1)*(pw b*Zbo (pw b) n)<=pw 1*(pw b*pw ((b+1)*n)):=Qv (le_pw1 h) (Qv (Qi _) h1);rw[<- Zb8,<- Zb8]at h2;rw[show (b+1)*(n+1)=1+(b+(b+1)*n) by rw[QN];omega];exact h2
def SmE(k:Nat)(Q:List (List Rat)):Prop:=∀ i j,(Zh Q i j).num.natAbs<=pw k/\(Zh Q i j).den<=pw k
section
variable{k n m:Nat}{Q:List (List Rat)}
theorem SmE.denTo(h:SmE k Q)(i t:Nat):denTo (Q[i]?.getD []) t<=pw (k*t):=by
 rw[<- pw_pow];exact Zsg _ (λj=>(h i j).2) t
theorem SmE.denAt(h:SmE k Q){i:Nat}(hr:(Q[i]?.getD []).length=m):denAt Q i<=pw (k*m):=by
 have:=h.denTo i m;unfold Go.Proofs.YthappeninglakaaGreat.denAt;rw[hr];exact this
theorem Zrt{z:Int}{d:Nat}{q:Rat}(h:(z:Rat)=(d:Nat)*q):z.natAbs<=d*q.num.natAbs:=by
 have h1:(z:Rat)*((q.den:Nat):Rat)=((d:Nat):Rat)*((q.num:Int):Rat):=by
  have e0:((q.num:Int):Rat)/((q.den:Nat):Rat)=q:=by have:=Rat.num_divInt_den q;rw[Rat.divInt_eq_div,QM]at this;exact this
  have e1:((q.den:Nat):Rat)≠0:=by
   intro h;have:q.den=0:=by exact_mod_cast h
   have:=q.den_pos;omega
  have e2:((q.num:Int):Rat)=q*((q.den:Nat):Rat):=by
   have:((q.num:Int):Rat)/((q.den:Nat):Rat)*((q.den:Nat):Rat)=((q.num:Int):Rat):=by grind
   rw[e0]at this;exact this.symm
  rw[h,e2];grind
 have h2:z*(q.den:Int)=(d:Int)*q.num:=by exact_mod_cast h1
 have h3:=congrArg Int.natAbs h2;rw[Int.natAbs_mul,Int.natAbs_mul,Qy,Qy]at h3;rw[<- h3];exact Nat.le_mul_of_pos_right _ q.den_pos
theorem SmE.whole(h:SmE k Q){i:Nat}(hr:(Q[i]?.getD []).length=m)(j:Nat):(Zah (Z6 Q) i j).natAbs<=pw (k*m+k):=by
 refine Qj (Zrt (Zgz Q i j)) ?_;rw[Zb8];exact Qv (h.denAt hr) (h i j).1
theorem SmE.byZ(h:SmE k Q)(hrow:∀ i,i<n->(Q[i]?.getD []).length=m):∀ t,t<=n->byZ Q t<=pw (k*m*t)
 | 0,_=>Qi _
 | t+1,ht=>by
  have h1:=SmE.byZ h hrow t Gk;have h2:=h.denAt (hrow t Gk);rw[QN,Zb8];exact Qv h1 h2
end
def qM(rs:List RX):List (List Rat):=rs.map λr=>r.es.map FX.q
section
variable{w:World}{A:Option Addr}{n c:Nat}{rs:List RX}
theorem Zn8(h:MXL w A n c rs):(qM rs).length=n:=by unfold qM;rw[Qm];exact h.1
end
def Zr(A:Nat->Nat->Rat):Nat->Nat->Nat->Rat
 | 0,i,k=>A i k
 | t+1,i,k=>if t<i then Zr A t i k-Zr A t i t/Zr A t t t*Zr A t t k else Zr A t i k
theorem Znc{A:Nat->Nat->Rat}{i k:Nat}:∀ {t:Nat},i<=t->Zr A t i k=Zr A i i k
 | 0,h=>by rw[show i=0 by omega]
 | t+1,h=>by
  by_cases hit:i=t+1;rw[hit];show (if t<i then _ else _)=_;rw[Gw Gk];exact Znc Gk
theorem Zff{A:Nat->Nat->Rat}{t i k:Nat}(h:t<i):Zr A (t+1) i k=Zr A t i k-Zr A t i t/Zr A t t t*Zr A t t k:=by
 show (if t<i then _ else _)=_;rw[Gx h]
theorem Zej{A:Nat->Nat->Rat}{n:Nat}(hA:∀ i k,i<n->k<n->A i k=A k i):∀ (t i k:Nat),t<=i->t<=k->i<n->k<n->Zr A t i k=Zr A t k i
 | 0,i,k,_,_,hi,hk=>hA i k hi hk
 | t+1,i,k,h1,h2,hi,hk=>by
  rw[Zff Gk,Zff Gk,Zej hA t i k Gk Gk hi hk,Zej hA t i t Gk Gk hi Gk,Zej hA t t k Gk Gk Gk hk];rw[Rat.div_def,Rat.div_def]
  grind
theorem Zcr{A C:Nat->Nat->Rat}{n m:Nat}(h:∀ i k,i<n->k<m->A i k=C i k)(hnm:n<=m):∀ (t i k:Nat),t<=n->i<n->k<m->Zr A t i k=Zr C t i k
 | 0,i,k,_,hi,hk=>h i k hi hk
 | t+1,i,k,ht,hi,hk=>by
  show (if t<i then _ else _)=(if t<i then _ else _);rw[Zcr h hnm t i k Gk hi hk,Zcr h hnm t i t Gk hi Gk,Zcr h hnm t t t Gk Gk Gk,Zcr h hnm t t k Gk Gk hk]
def dQ(A:Nat->Nat->Rat)(i:Nat):Rat:=Zr A i i i
def lQ(A:Nat->Nat->Rat)(i k:Nat):Rat:=Zr A k i k/dQ A k
theorem Zmz{A:Nat->Nat->Rat}{n:Nat}(hA:∀ i k,i<n->k<n->A i k=A k i){t i k:Nat}(ht:t<k)(hk:k<=i)(hi:i<n)(hd:dQ A t≠0) :
    Zr A (t+1) i k=Zr A t i k-lQ A i t*lQ A k t*dQ A t:=by
 rw[Zff Gk,Zej hA t t k Gk Gk Gk Gk];unfold lQ dQ at *
 grind
theorem Zqd{A:Nat->Nat->Rat}{t i k:Nat}(ht:t<i):Zr A (t+1) i k=Zr A t i k-lQ A i t*Zr A t t k:=by
 rw[Zff ht];rfl
def Zfv(R:List (List Rat)):Nat->List (List Rat)
 | 0=>R
 | t+1=>Zbr (Zfv R t) t t
theorem Zh4(R:List (List Rat)):∀ t,(Zfv R t).length=R.length
 | 0=>rfl
 | t+1=>by
  show (Zbr _ _ _).length=_;rw[Ze9];exact Zh4 R t
def posP(A:Nat->Nat->Rat)(n:Nat):Prop:=∀ t,t<n->0<dQ A t
theorem posP.mono{A:Nat->Nat->Rat}{n m:Nat}(h:posP A n)(hm:m<=n):posP A m:=λt ht=>h t Gk
theorem posP.ne{A:Nat->Nat->Rat}{n:Nat}(h:posP A n){t:Nat}(ht:t<n):dQ A t≠0:=λh0=>by have:=h t ht;rw[h0]at this;exact absurd this Gj
section
variable{B S n m:Nat}{R:List (List Rat)}
theorem Ziq{pc:Nat->Nat}{G:Nat->Nat->Rat}{s:Nat->Rat}(h0:EIR B S n m 0 0 R pc G s):∀ t,t<=n->t<=m->posP (Zh R) t->(∃ pc,EIR B S n m t t (Zfv R t) pc G s)/\∀ i k,i<n->Zh (Zfv R t) i k=Zr (Zh R) t i k
 | 0,_,_,_=>⟨⟨_,h0⟩,λi k _=>rfl⟩
 | t+1,hn,hm,hp=>by
  obtain⟨⟨pc,h1⟩,h2⟩:=Ziq h0 t Gk Gk (hp.mono Gk);have h0:Zh (Zfv R t) t t≠0:=by rw[h2 t t Gk];exact hp.ne Gk
  refine⟨⟨_,h1.clear Gk Gk h0⟩,λi k hi=>?_⟩;show Zh (Zbr (Zfv R t) t t) i k=if t<i then _ else _;rw[Zg1 (m:=m) (λi hi=>h1.row i (by rw[h1.len]at hi;exact hi)) (λj hj=>h1.low t j (Qi _) Gk hj) i k (by rw[h1.len];exact hi) (by rw[h1.len];omega)]
  by_cases hti:t<i;rw[Gw Gk,Gx hti,h2 i k hi,h2 i t hi,h2 t t Gk,h2 t k Gk];rw[Gx Gk,Gw hti,h2 i k hi]
theorem Zs1(hl:R.length=n)(hrow:∀ i,i<n->(R[i]?.getD []).length=m)(hS:∀ i,i<n->denAt R i<=S)(hBd:∀ i j,i<n->(Zah (Z6 R) i j).natAbs<=B)(t:Nat)(hn:t<=n)(hm:t<=m)(hp:posP (Zh R) t) :
    (∃ pc G s,EIR B S n m t t (Zfv R t) pc G s)/\∀ i k,i<n->Zh (Zfv R t) i k=Zr (Zh R) t i k:=by
 obtain⟨⟨pc,h1⟩,h2⟩:=Ziq (Znz R hl hrow hS hBd).1 t hn hm hp;exact⟨⟨_,_,_,h1⟩,h2⟩
theorem Zut{D:Nat}(hl:R.length=n)(hrow:∀ i,i<n->(R[i]?.getD []).length=m)(hD:0<D)(hB:∀ i j,i<n->BndQ B ((D:Nat)*Zh R i j)):EIR B D n m 0 0 R (λ_=>0) (λi j=>(D:Nat)*Zh R i j) (λ_=>(D:Nat)):=by
 refine⟨hl,hrow,λl h=>by omega,λl l' _ h=>by omega,λi j _ _ h=>by omega,λl j h=>by omega,λl h=>by omega,QF _,QF _,λi hi=>⟨⟨(D:Nat),by rw[QM],by rw[Qy];exact Qi _⟩,λh0=>?_⟩,λi j hi=>hB i j hi,λN f σ _ _ _=>rfl⟩;have:D=0:=by exact_mod_cast h0
 omega
end
section
variable{k n m:Nat}{R:List (List Rat)}
end
theorem SmE.red2{k n m:Nat}{R:List (List Rat)}(h:SmE k R)(hl:R.length=n)(hn:n<=900)(hrow:∀ i,i<n->(R[i]?.getD []).length=m){t:Nat}(ht:t<=n)(htm:t<=m)(hp:posP (Zh R) t){i:Nat}(hi:i<n)(j:Nat):SmN ((k*m+k+1)*n+1) ((k*m+k+1)*n+k*m+1) (Zr (Zh R) t i j):=by
 obtain⟨⟨pc,G,s,h3⟩,h4⟩:=Zs1 (B:=pw (k*m+k)) (S:=pw (k*m)) hl hrow (λi hi=>h.denAt (hrow i hi)) (λi j hi=>h.whole (hrow i hi) j) t ht htm hp;obtain⟨h5,h6⟩:=h3.bound (Zbt _) hi j;rw[h4 i j hi]at h5 h6;have hb:=Zkk (b:=k*m+k) n hn;refine⟨Qk (Qj h5 hb) (Zci Gk),?_⟩;refine Qk (Qj h6 (Qv hb (Qi _))) ?_;rw[<- Zb8];exact Zci Gk
structure FacP (A:Nat->Nat->Rat) (n:Nat):Prop where
 sym:∀ i k,i<n->k<n->A i k=A k i
 s:∀ t i k,t<=n->posP A t->i<n->k<n->SmN 380 380 (Zr A t i k)
 l:∀ i k,k<=i->i<n->posP A (k+1)->SmN 300 300 (lQ A i k)
section
variable{A:Nat->Nat->Rat}{n:Nat}
theorem FacP.d(h:FacP A n){k:Nat}(hk:k<n)(hp:posP A k):SmN 380 380 (dQ A k):=h.s k k k Gk hp hk hk
theorem FacP.ll(h:FacP A n){i j k:Nat}(hki:k<=i)(hi:i<n)(hkj:k<=j)(hj:j<n)(hp:posP A (k+1)):SmN 600 600 (lQ A i k*lQ A j k):=((h.l i k hki hi hp).mulN (h.l j k hkj hj hp)).mono Gj Gj
theorem FacP.lld(h:FacP A n){i j k:Nat}(hki:k<=i)(hi:i<n)(hkj:k<=j)(hj:j<n)(hp:posP A (k+1)):SmN 980 980 (lQ A i k*lQ A j k*dQ A k):=((h.ll hki hi hkj hj hp).mulN (h.d (show k<n by omega) (hp.mono Gk))).mono Gj Gj
end
theorem FacP.unif{n D b e:Nat}{R:List (List Rat)}(hl:R.length=n)(hn:n<=900)(hrow:∀ i,i<n->(R[i]?.getD []).length=n)(hA:∀ i k,i<n->k<n->Zh R i k=Zh R k i)(hD:0<D)(hDe:D<=pw e)(hB:∀ i j,i<n->BndQ (pw b) ((D:Nat)*Zh R i j))
    (h1:(b+1)*n<300) (h2:(b+1)*n+e<380):FacP (Zh R) n:=by
 have h0:=Zut hl hrow hD hB;have hb:=Zkk (b:=b) n hn
 have o:((D:Nat):Rat)≠0:=λh=>by
  have:D=0:=by exact_mod_cast h
  omega
 refine⟨hA,λt i j ht hp hi _=>?_,λi k hki hi hp=>?_⟩
 ·obtain⟨⟨pc,h3⟩,h4⟩:=Ziq h0 t ht ht hp
  obtain⟨h5,h6⟩:=h3.bound (Zbt _) hi j;rw[h4 i j hi]at h5 h6;refine⟨Qk (Qj h5 hb) (Zci Gk),?_⟩;refine Qk (Qj h6 (Qv hb hDe)) ?_;rw[<- Zb8];exact Zci Gk
 obtain⟨⟨pc,h3⟩,h4⟩:=Ziq h0 k Gk Gk (hp.mono Gk);have m1:=h3.minor hi k;have m2:=h3.minor (show k<n by omega) k;rw[show min i k=k by omega,h4 i k hi]at m1;rw[Nat.min_self,h4 k k Gk]at m2;have hd:Zr (Zh R) k k k≠0:=hp.ne Gk;have f:=h3.piv_ne (l:=k) (Qi _)
 have e1:Zer (Zfv R k) pc (λ_=>((D:Nat):Rat)) k*(((D:Nat):Rat)*Zr (Zh R) k k k)*lQ (Zh R) i k=Zer (Zfv R k) pc (λ_=>((D:Nat):Rat)) k*(((D:Nat):Rat)*Zr (Zh R) k i k):=by
  unfold lQ dQ
  grind
 rw[<- e1]at m1
 obtain⟨h5,h6⟩:=Ze2 m1 m2 (λh=>by
  rcases Rat.mul_eq_zero.1 h with h7|h7;exact f h7;rcases Rat.mul_eq_zero.1 h7 with h8|h8;exact o h8;exact hd h8)
 have hm:=Zc3 (B:=pw b) (m:=k+1) (n:=n) (Zbt _) Gk;exact⟨Qk (Qj h5 (Qj hm hb)) (Zci Gk),Qk (Qj h6 (Qj hm hb)) (Zci Gk)⟩
theorem FacP.of{k n:Nat}{R:List (List Rat)}(h:SmE k R)(hl:R.length=n)(hn:n<=900)(hrow:∀ i,i<n->(R[i]?.getD []).length=n)(hA:∀ i k,i<n->k<n->Zh R i k=Zh R k i)(h1:(k*n+k+1)*n+((k*n+k+1)*n+k*n)+2<=300):FacP (Zh R) n:=by
 refine⟨hA,λt i j ht hp hi _=>(h.red2 hl hn hrow ht ht hp hi j).mono Gk Gk,λi j hji hi hp=>?_⟩;have hj:j<n:=Gk;have a:=h.red2 hl hn hrow (t:=j) Gk Gk (hp.mono Gk) hi j;have b:=h.red2 hl hn hrow (t:=j) Gk Gk (hp.mono Gk) hj j;exact(a.divN b (hp.ne Gk)).mono Gk Gk
open Go.RowKit
def FX.fine64(e:FX):Bool:=decide (e.few<=64) && e.ok
def Zcz(es:List FX):Bool:=es.all FX.fine64
def RX.long6(r:RX):Bool:=decide (6<r.n)
def long6(rs:List RX):Bool:=decide (6<rs.length) || rs.any RX.long6
def Zc6(k:Nat)(r:RX):Bool:=decide (r.n=k) && Zcz r.es
def Zhm(Q:List (List Rat)):Bool:=decide (∀ i,i<Q.length->∀ k,k<i->Zh Q i k=Zh Q k i)
def posB(A:Nat->Nat->Rat)(n:Nat):Bool:=decide (∀ t,t<n->0<dQ A t)
theorem posB_iff{A:Nat->Nat->Rat}{n:Nat}:posB A n=true ↔ posP A n:=by unfold posB posP;rw[decide_eq_true_eq]
def Zat(rs:List RX):Int:=if long6 rs=true then 4 else if rs.length=0 then 8 else if rs.all (Zc6 rs.length)=true then (if (Zhm (qM rs) && posB (Zh (qM rs)) rs.length)=true then 0 else 8)else 8
section
variable{rs:List RX}
theorem Zf2(h:long6 rs=true):Zat rs=4:=by unfold Zat;rw[Gx h]
theorem Zsr(h:long6 rs=false)(h0:rs.length=0):Zat rs=8:=by unfold Zat;rw[Gw (by simp[h]),Gx h0]
theorem IS{G:Prop}(h:G:=by
 rw[Gw (by simp[h]),Gw h0,Gw];intro e;rw[List.all_eq_true]at e;have:=e r hr;rw[hb]at this;cases this):G:=h
theorem Zr9(h:long6 rs=false)(h0:rs.length≠0){r:RX}(hr:r ∈ rs)(hb:Zc6 rs.length r=false):Zat rs=8:=by
 unfold Zat;exact IS
theorem IX{G:Prop}(h:G:=by
 rw[List.all_eq_true]at h3;have h7:=h3 r hr;unfold Zc6 at h7;rw[Bool.and_eq_true,decide_eq_true_eq]at h7;exact h7):G:=h
theorem Zjv(h:Zat rs=0):0<rs.length/\rs.length<=6/\(∀ r ∈ rs,r.n=rs.length/\Zcz r.es=true)/\Zhm (qM rs)=true/\posP (Zh (qM rs)) rs.length:=by
 unfold Zat at h;by_cases h1:long6 rs=true;rw[Gx h1]at h;cases h;rw[Gw h1]at h;by_cases h2:rs.length=0;rw[Gx h2]at h;cases h;rw[Gw h2]at h;by_cases h3:rs.all (Zc6 rs.length)=true
 ·rw[Gx h3]at h
  by_cases h4:(Zhm (qM rs) && posB (Zh (qM rs)) rs.length)=true
  ·rw[Qd]at h4
   have h5:long6 rs=false:=by simpa using h1
   unfold long6 at h5;rw[QL]at h5;have h6:=of_decide_eq_false h5.1;refine⟨by omega,by omega,λr hr=>?_,h4.1,posB_iff.1 h4.2⟩;exact IX
  rw[Gw h4]at h;cases h
 rw[Gw h3]at h;cases h
theorem symB_iff{Q:List (List Rat)}:Zhm Q=true ↔ ∀ i k,i<Q.length->k<Q.length->Zh Q i k=Zh Q k i:=by
 unfold Zhm;rw[decide_eq_true_eq];constructor
 ·intro h i k hi hk
  rcases Nat.lt_trichotomy i k with h1|h1|h1;exact(h k hk i h1).symm;rw[h1];exact h i hi k h1
 intro h i hi k hk;exact h i k hi Gk
theorem Zoi{es:List FX}(h:Zcz es=true):∀ e ∈ es,e.ok=true:=λe he=>by
 unfold Zcz at h;rw[Qe]at h;have:=h e he;unfold FX.fine64 at this;rw[Qd]at this;exact this.2
end
def Zlh(k:Nat)(rs:List RX):Prop:=∀ r ∈ rs,∀ e ∈ r.es,e.few<=k \/ 64<e.few
section
variable{w:World}{A:Option Addr}{n c:Nat}{rs:List RX}
theorem Z07(h:MXL w A n c rs)(hE:Zat rs=0):MFL w A n c (qM rs):=h.mfl λr hr=>Zoi ((Zjv hE).2.2.1 r hr).2
theorem cov_row(h:MXL w A n c rs)(hE:Zat rs=0)(i:Nat)(hi:i<n):((qM rs)[i]?.getD []).length=n:=by
 obtain⟨-,-,h3,-,-⟩:=Zjv hE;unfold qM;rw[Ql,Qh (by rw[h.1];exact hi)];simp only[QC,Qo,Qm];have hr:rs[i]'(by rw[h.1];exact hi) ∈ rs:=QQ _;have h4:=(h.2.2.2.1 _ hr).1;rw[h4,(h3 _ hr).1,h.1]
theorem Zsq{e:FX}(hin:e.in_ w)(hk:e.ok=true){k:Nat}(hf:e.few<=k):(e.q).num.natAbs<=pw k/\(e.q).den<=pw k:=by
 have h1:Fr w e.na e.A e.n e.c e.nb e.B e.m e.d e.q:=Zrj hin.1 hin.2 hk;have h2:=h1.1.lim.len;have h3:=h1.2.lim.len;unfold FX.few at hf;constructor
 ·have h4:=Nat.le_of_lt (Zct e.q.num.natAbs)
  rw[h2]at h4;exact Qj h4 (Zb1 Gk)
 have h4:=Nat.le_of_lt (Zct ((e.q.den:Int).natAbs));rw[h3]at h4;simp only[Qy]at h4;exact Qj h4 (Zb1 Gk)
end
def covV(rs:List RX):Prop:=long6 rs=false/\rs.length≠0/\rs.all (Zc6 rs.length)=true
def FacC(rs:List RX):Prop:=covV rs->Zhm (qM rs)=true->FacP (Zh (qM rs)) rs.length
section
variable{w:World}{A:Option Addr}{n c:Nat}{rs:List RX}
theorem covV.facts(h:covV rs):0<rs.length/\rs.length<=6/\∀ r ∈ rs,r.n=rs.length/\Zcz r.es=true:=by
 obtain⟨h1,h2,h3⟩:=h;unfold long6 at h1;rw[QL]at h1;have h6:=of_decide_eq_false h1.1;refine⟨by omega,by omega,λr hr=>?_⟩;exact IX
theorem Zew(h:Zat rs=0):covV rs/\Zhm (qM rs)=true/\posP (Zh (qM rs)) rs.length:=by
 obtain⟨h1,h2,h3,h4,h5⟩:=Zjv h;refine⟨⟨?_,by omega,?_⟩,h4,h5⟩
 ·cases hl:long6 rs with
  | false=>rfl
  | true=>rw[Zf2 hl]at h;cases h
 rw[Qe];intro r hr;unfold Zc6;rw[Qd,decide_eq_true_eq];exact h3 r hr
theorem covV.E(h:covV rs):Zat rs=if (Zhm (qM rs) && posB (Zh (qM rs)) rs.length)=true then 0 else 8:=by
 obtain⟨h1,h2,h3⟩:=h;unfold Zat;rw[Gw (by rw[h1];decide),Gw h2,Gx h3]
theorem covV.asym(h:covV rs)(hs:Zhm (qM rs)=false):Zat rs=8:=by rw[h.E,hs];rfl
theorem covV.pos(h:covV rs)(hs:Zhm (qM rs)=true)(hp:posP (Zh (qM rs)) rs.length):Zat rs=0:=by
 rw[h.E,hs,posB_iff.2 hp];rfl
theorem covV.neg(h:covV rs)(hs:Zhm (qM rs)=true)(hp:¬ posP (Zh (qM rs)) rs.length):Zat rs=8:=by
 have:posB (Zh (qM rs)) rs.length=false:=by
  cases hb:posB (Zh (qM rs)) rs.length with
  | false=>rfl
  | true=>exact absurd (posB_iff.1 hb) hp
 rw[h.E,hs,this];rfl
theorem covV.good(hV:covV rs)(h:MXL w A n c rs):MFL w A n c (qM rs):=h.mfl λr hr=>Zoi (hV.facts.2.2 r hr).2
theorem covV.row(hV:covV rs)(h:MXL w A n c rs)(i:Nat)(hi:i<n):((qM rs)[i]?.getD []).length=n:=by
 unfold qM;rw[Ql,Qh (by rw[h.1];exact hi)];simp only[QC,Qo,Qm];have hr:rs[i]'(by rw[h.1];exact hi) ∈ rs:=QQ _;have h4:=(h.2.2.2.1 _ hr).1;rw[h4,(hV.facts.2.2 _ hr).1,h.1]
theorem covV.small(hV:covV rs)(h:MXL w A n c rs){k:Nat}(hf:Zlh k rs):SmE k (qM rs):=λi j=>by
 unfold Zh qM;rw[Ql];cases hr:rs[i]? with
 | none=>exact⟨QF _,Zbt _⟩
 | some r =>
  simp only[QC,Qo,Ql];cases he:r.es[j]? with
  | none=>exact⟨QF _,Zbt _⟩
  | some e =>
   simp only[QC,Qo];have o:=Qr hr;have f:=Qr he;have h5:=(hV.facts.2.2 r o).2;unfold Zcz at h5;rw[Qe]at h5;have h6:=h5 e f;unfold FX.fine64 at h6;rw[Qd,decide_eq_true_eq]at h6;refine Zsq ((h.2.2.2.1 r o).2.2.2.1 e f) h6.2 ?_;rcases hf r o e f with h7|h7 <;> omega
theorem covV.small64(hV:covV rs)(h:MXL w A n c rs):SmE 64 (qM rs):=hV.small h (λr _ e _=>QD 64 e.few |>.symm)
theorem SmE.smC{k:Nat}{Q:List (List Rat)}(h:SmE k Q)(hk:k<1000)(i j:Nat):Sm (Zh Q i j):=
 ⟨Qk (h i j).1 (Zci hk),Qk (h i j).2 (Zci hk)⟩
theorem covV.fac(hV:covV rs)(h:MXL w A n c rs)(hs:Zhm (qM rs)=true){k:Nat}(hf:Zlh k rs)(hb:(k*n+k+1)*n+((k*n+k+1)*n+k*n)+2<=300):FacP (Zh (qM rs)) n:=by
 have h6:=hV.facts.2.1;have hl:(qM rs).length=n:=Zn8 h;have hn:rs.length=n:=h.1;exact FacP.of (hV.small h hf) hl Gk (λi hi=>hV.row h i hi) (λi k hi hk=>symB_iff.1 hs i k Gk Gk) hb
theorem FacC.of(h:MXL w A n c rs){k:Nat}(hf:Zlh k rs)(hb:n<=6->(k*n+k+1)*n+((k*n+k+1)*n+k*n)+2<=300):FacC rs:=λhV hs=>by
 have hn:rs.length=n:=h.1;rw[hn];exact hV.fac h hs hf (hb (by have:=hV.facts.2.1;omega))
theorem MFL.atS{w:World}{g o n c:Nat}{Q:List (List Rat)}(h:MFL w (some ⟨g,o,none⟩) n c Q){k:Nat}(hk:k<n):∃ A' n' c',w.cell? ⟨g,o+k,none⟩=some (.slice A' n' c')/\FL w A' n' c' (Q[k]?.getD []):=by
 obtain⟨g',o',A',n',c',e,h1,h2⟩:=h.at_ hk;cases e;exact⟨_,_,_,h1,h2⟩
theorem cmpQ_zero{a b:Rat}:cmpQ a b=0 ↔ a=b:=by
 unfold cmpQ;constructor
 ·intro h
  split at h
  cases h
  split at h
  cases h;rename_i h1 h2;exact Rat.le_antisymm (Rat.not_lt.1 h2) (Rat.not_lt.1 h1)
 intro h;subst h;rw[Gw Rat.lt_irrefl,Gw Rat.lt_irrefl]
end
theorem Z2v{t:Array Value}{d:Nat}{u:Value}(h:t[d]?=some u):t.setIfInBounds d u=t:=by
 apply Array.ext;simp;intro i h1 h2;rw[Array.getElem_setIfInBounds (by simpa using h1)]
 split
 ·rename_i e
  subst e;rw[Qf h2]at h;injection h with h
  exact h.symm
 rfl
section
variable{P:Program}{ops:Array Oper}{Q:Exit->Act->World->Prop}{md:Region.Mode}{L:List Nat}{S:World->Prop}{f1 f2 d1 d2 F:Nat}{t1 t2:TypeId}{z1 z2:Array Value}
theorem Zm{i:Nat}{o:Oper}{K:Act->World->Prop}{a:Act}{w:World}(ho:ops[i]?=some o)
    (h:∀ K':Act->World->Prop,Shut (∀ a w,K a w->K' a w)->if Region.wanted o (yielded ops a.tmps)=true then Oper.wp P o a w K' Q else K' (a.put o.dst undef) w):wpOp P ops Q i K a w:=
 wpOp_step ho (λK' hK=>h K' hK)
end
def Zbf(md:Region.Mode)(ops:Array Oper)(i:Nat):List Nat:=match ops[i]? with|some o=>(o.after.toList.filter (λe=>Region.binds md e)).map (·.on)|none=>[]
def Zbm(ops:Array Oper)(i:Nat):Nat:=match ops[i]? with|some o=>o.dst.getD 0|none=>0
def Zbu(R:List Nat)(l:Array Bool):Array Bool:=R.foldl (λl i=>l.setIfInBounds i true) l
def clo(md:Region.Mode)(ops:Array Oper):List Nat->List Nat->List Nat
 | [],c=>c
 | r::rs,c=>clo md ops rs (if c.contains r then Zbf md ops r++c else c)
def Zcd:List Nat->Bool
 | []=>true
 | x::l=>!l.contains x && Zcd l
def Zap:List Nat->Act->(Nat->Value)->Act
 | [],a,_=>a
 | d::ds,a,ν=>Zap ds (a.put (some d) (ν d)) ν
def upd(ν:Nat->Value)(d:Nat)(v:Value):Nat->Value:=λk=>if k=d then v else ν k
theorem Z01{a:Act}{d e:Nat}{u v:Value}(h:d≠e):(a.put (some d) u).put (some e) v=(a.put (some e) v).put (some d) u:=by
 simp only[Act.put];rw[Qz _ _ h]
theorem Zya{ds:List Nat}{a:Act}{ν:Nat->Value}{d:Nat}{v:Value}(h:d ∉ ds):Zap ds (a.put (some d) v) ν=(Zap ds a ν).put (some d) v:=by
 induction ds generalizing a with
 | nil=>rfl
 | cons e ds ih =>
  have h1:d≠e:=λh'=>h (h'▸Qc ..);show Zap ds ((a.put (some d) v).put (some e) (ν e)) ν=_;rw[Z01 h1,ih (λh'=>h (Qa _ h'))];rfl
theorem Zoq{ds:List Nat}{a:Act}{ν:Nat->Value}{d:Nat}{v:Value}(h:d ∉ ds):Zap ds a (upd ν d v)=Zap ds a ν:=by
 induction ds generalizing a with
 | nil=>rfl
 | cons e ds ih =>
  have h1:e≠d:=λh'=>h (h'▸Qc ..);show Zap ds (a.put (some e) (upd ν d v e)) (upd ν d v)=Zap ds (a.put (some e) (ν e)) ν;rw[ih (λh'=>h (Qa _ h'))];simp only[upd,Gw h1]
theorem put_put{a:Act}{d:Nat}{u v:Value}:(a.put (some d) u).put (some d) v=a.put (some d) v:=by
 simp only[Act.put];rw[Array.setIfInBounds_setIfInBounds]
theorem Zb7{x:Nat}{l:List Nat}(h:Zcd (x::l)=true):x ∉ l/\Zcd l=true:=by
 simp only[Zcd,Qd,Qn]at h;exact⟨λhx=>by rw[List.contains_iff_mem.2 hx]at h;exact absurd h.1 Gh,h.2⟩
theorem Zlo{ds:List Nat}{a:Act}{ν:Nat->Value}{d:Nat}{v:Value}(h:d ∈ ds)(hn:Zcd ds=true):(Zap ds a ν).put (some d) v=Zap ds a (upd ν d v):=by
 induction ds generalizing a with
 | nil=>cases h
 | cons e ds ih =>
  obtain⟨h1,h2⟩:=Zb7 hn;show (Zap ds (a.put (some e) (ν e)) ν).put (some d) v=Zap ds (a.put (some e) (upd ν d v e)) (upd ν d v);by_cases hd:d=e
  ·subst hd
   rw[<- Zya h1,put_put,Zoq h1];simp only[upd,if_true]
  rcases List.mem_cons.1 h with h'|h';exact absurd h' hd;rw[ih h' h2];simp only[upd,Gw (Qw hd)]
theorem Zuu{ds:List Nat}{a:Act}:Zap ds a (λd=>a.tmps.getD d undef)=a:=by
 induction ds with
 | nil=>rfl
 | cons d ds ih =>
  show Zap ds (a.put (some d) (a.tmps.getD d undef)) _=a
  have:a.put (some d) (a.tmps.getD d undef)=a:=by
   cases a with
   | mk t df =>
    simp only[Act.put];congr 1;rcases QD d t.size with h|h;exact Z2v (by rw[Qb,Qf h];rfl);exact Array.setIfInBounds_eq_of_size_le h
  rw[this];exact ih
theorem Zcl(R:List Nat)(l:Array Bool)(k:Nat):(Zbu R l).getD k true=if k ∈ R then true else l.getD k true:=by
 unfold Zbu
 induction R generalizing l with
 | nil=>simp
 | cons r R ih =>
  rw[QS,ih];by_cases h1:k ∈ R;rw[Gx h1,Gx (Qa _ h1)];rw[Gw h1];by_cases h2:k=r
  ·subst h2
   rw[Gx (Qc ..)];rw[Qb,Array.getElem?_setIfInBounds]
   split
   ·split <;> rfl
   rename_i h;exact absurd rfl h
  rw[Gw (λh=>by rcases List.mem_cons.1 h with h|h;exact h2 h;exact h1 h),Go.getD_set_ne true (Qw h2)]
theorem Zg5(R:List Nat)(l:Array Bool):(Zbu R l).size=l.size:=by
 unfold Zbu
 induction R generalizing l with
 | nil=>rfl
 | cons r R ih=>rw[QS,ih];simp
theorem Zu6{l m:Array Bool}(hs:l.size=m.size)(h:∀ k,l.getD k true=m.getD k true):l=m:=by
 apply Array.ext hs;intro i h1 h2;have:=h i;rw[Qb,Qb,Qf h1,Qf h2]at this;exact this
section
variable{P:Program}{ops:Array Oper}{Q:Exit->Act->World->Prop}{md:Region.Mode}{L:List Nat}{S:World->Prop}
theorem Zuo{l:Array Bool}{R:List Nat}(hd:∀ r ∈ R,l.getD r false=true->∀ p ∈ Zbf md ops r,l.getD p false=true) :
    ∀ (rs:List Nat) (c:List Nat),(∀ r ∈ rs,r ∈ R)->(∀ x ∈ c,l.getD x false=true)->∀ x ∈ clo md ops rs c,l.getD x false=true
 | [],c,_,hc,x,hx=>hc x hx
 | r::rs,c,hr,hc,x,hx=>by
  refine Zuo hd rs _ (λy hy=>hr y (Qa _ hy)) (λy hy=>?_) x hx
  split at hy
  ·rename_i h1
   rcases List.mem_append.1 hy with h2|h2;exact hd r (hr r (Qc ..)) (hc r (List.contains_iff_mem.1 h1)) y h2;exact hc y h2
  exact hc y hy
theorem Ze0{l:Array Bool}{k:Nat}(h:l.getD k false=true):l.getD k true=true:=by
 rw[Qb]at h ⊢;cases hk:l[k]? with
 | none=>rfl
 | some b=>rw[hk]at h;exact h
theorem Za3{l:Array Bool}{k j:Nat}(h:l.getD k false=true):(l.setIfInBounds j true).getD k false=true:=by
 by_cases hkj:j=k
 ·subst hkj
  rw[Qb,Qs];rw[Qb]at h
  split
  rfl;rename_i h1;rw[Qu Gk]at h;cases h
 rw[Go.getD_set_ne false hkj];exact h
theorem Zm4{i:Nat}{l:Array Bool}(h:i ∈ Region.ready md ops l):l.getD i true=false/\i<ops.size/\∀ p ∈ Zbf md ops i,l.getD p false=true:=by
 obtain⟨h1,o,ho,h2⟩:=mem_ready.1 h;refine⟨h1,(Array.getElem?_eq_some_iff.1 ho).1,λp hp=>?_⟩;unfold Zbf at hp;rw[ho]at hp;obtain⟨e,he,rfl⟩:=List.mem_map.1 hp;rw[QT]at he;exact h2 e (by simpa using he.1) he.2
theorem Zh7{i:Nat}{l:Array Bool}(h1:l.getD i true=false){o:Oper}(ho:ops[i]?=some o)(h:∀ p ∈ Zbf md ops i,l.getD p false=true):i ∈ Region.ready md ops l:=by
 refine mem_ready.2 ⟨h1,o,ho,λe he hb=>h _ ?_⟩;unfold Zbf;rw[ho];exact List.mem_map.2 ⟨e,List.mem_filter.2 ⟨by simpa using he,hb⟩,rfl⟩
def left(R:List Nat)(l:Array Bool):Nat:=(R.filter λr=>!l.getD r true).length
theorem Zm5{f:Nat->Nat}:∀ {R:List Nat},Zcd (R.map f)=true->Zcd R=true
 | [],_=>rfl
 | r::R,h=>by
  obtain⟨h1,h2⟩:=Zb7 (x:=f r) (l:=R.map f) h;simp only[Zcd,Qd,Qn];refine⟨?_,Zm5 h2⟩;cases hc:R.contains r with
  | false=>rfl
  | true=>exact absurd (List.mem_map.2 ⟨r,List.contains_iff_mem.1 hc,rfl⟩) h1
theorem Zf8{f:Nat->Nat}:∀ {R:List Nat},Zcd (R.map f)=true->∀ {r i:Nat},r ∈ R->i ∈ R->r≠i->f r≠f i
 | [],_,_,_,h,_,_=>by cases h
 | x::R,h,r,i,hr,hi,hne=>by
  obtain⟨h1,h2⟩:=Zb7 (x:=f x) (l:=R.map f) h;rcases List.mem_cons.1 hr with u|u
  ·rcases List.mem_cons.1 hi with o|o
   exact absurd (u.trans o.symm) hne;exact λe=>h1 (List.mem_map.2 ⟨i,o,by rw[<- e,u]⟩)
  rcases List.mem_cons.1 hi with o|o;exact λe=>h1 (List.mem_map.2 ⟨r,u,by rw[e,o]⟩);exact Zf8 h2 u o hne
theorem Zyi{R:List Nat}{l:Array Bool}{i:Nat}(hi:i ∉ R):left R (l.setIfInBounds i true)=left R l:=by
 unfold left;congr 1;apply List.filter_congr;intro r hr;rw[Go.getD_set_ne true (λe:i=r=>hi (e▸hr))]
theorem Zmy{R:List Nat}{l:Array Bool}{i:Nat}(hn:Zcd R=true)(hi:i ∈ R)(h:l.getD i true=false):left R (l.setIfInBounds i true)+1=left R l:=by
 have f:i<l.size:=by
  rcases QD i l.size with h'|h';exact h';rw[Qb,Qu h']at h;cases h
 have e:(l.setIfInBounds i true).getD i true=true:=by
  rw[Qb,Qs,Gx f];rfl
 induction R with
 | nil=>cases hi
 | cons r R ih =>
  obtain⟨n1,n2⟩:=Zb7 hn;by_cases hr:i=r
  ·subst hr
   have:=Zyi (l:=l) n1;unfold left at this ⊢;rw[QA (by simp[e]),QB (by simp[h]),this];rfl
  have o:i ∈ R:=by
    rcases List.mem_cons.1 hi with h'|h';exact absurd h' hr;exact h'
  have:=ih n2 o;unfold left at this ⊢;by_cases hb:l.getD r true=true;rw[QA (by rw[Go.getD_set_ne true hr];simp[hb]),QA (by simp[hb])];exact this;rw[QB (by rw[Go.getD_set_ne true hr];simpa using hb),QB (by simpa using hb),QI,QI,this]
theorem Zt7(R:List (Nat × Nat))(h:R.all (λp=>Zbm ops p.1 == p.2)=true):(R.map (·.1)).map (Zbm ops)=R.map (·.2):=by
 rw[List.map_map];apply List.map_congr_left;intro p hp;rw[Qe]at h;simpa using h p hp
end
section
variable{P:Program}{ops:Array Oper}{Q:Exit->Act->World->Prop}{md:Region.Mode}{L:List Nat}{S:World->Prop}
theorem Zkv{i:Nat}{oi:Oper}{v:Value}(hi:ops[i]?=some oi)(hsel:∀ (j:Nat) (o:Oper) cs b,ops[j]?=some o->o.op ≠ .select cs b)
    (hQ:∀ c a w,Q (.panic c) (a.put oi.dst v) w->Q (.panic c) a w) (hiL:L.contains i=false) :
    ∀ (fuel:Nat) (listed:Array Bool) (a:Act) (w:World),
     (∀ j oj,ops[j]?=some oj->j≠i->listed.getD j true=false->(∀ e ∈ oj.after,Region.binds md e=true->e.on≠i)->oi.apart ops oj=true) ->
     i ∈ Region.ready md ops listed->YieldsIf P ops (λ_=>True) oi v a->(Zcx L listed=true->S w) ->
     Zab P md ops Q L S fuel (listed.setIfInBounds i true) (a.put oi.dst v) w->Zab P md ops Q L S (fuel+1) listed a w:=by
 have f:i ∉ L:=λh=>by
  rw[List.contains_iff_mem.2 h]at hiL;cases hiL
 intro fuel
 induction fuel with
 | zero =>
  intro listed a w _ hr hy hS H;refine⟨λh=>(by rw[h]at hr;cases hr),λj hj=>?_⟩;by_cases hji:j=i;subst hji;exact hy.wpOp hi trivial ⟨λh=>hS (by rwa [Zdf f]at h),H⟩;have:=ready_mono hj hji;rw[H.1]at this;cases this
 | succ fuel ih =>
  intro listed a w bW hr hy hS H;refine⟨λh=>(by rw[h]at hr;cases hr),λj hj=>?_⟩;by_cases hji:j=i;subst hji;exact hy.wpOp hi trivial ⟨λh=>hS (by rwa [Zdf f]at h),H⟩;have h1:=H.2 j (ready_mono hj hji);obtain⟨dv,oj,y,ay⟩:=mem_ready.1 hj
  have I:∀ e ∈ oj.after,Region.binds md e=true->e.on≠i:=λe he hb heq=>by
   exact FN
  have h2:=wpOp_putIf y (bW j oj y hji dv I) (λcs b=>hsel i oi cs b hi) (λcs b=>hsel j oj cs b y) hQ hy h1
  have u:∀ k ok,ops[k]?=some ok->k≠i->(listed.setIfInBounds j true).getD k true=false ->
      (∀ e ∈ ok.after,Region.binds md e=true->e.on≠i)->oi.apart ops ok=true:=λk ok hk hki hun iG=>by
   exact Ia
  refine wpOp_mono (λa' w' h3=>?_) h2
  have C:Zcx L (listed.setIfInBounds j true)=true->S w':=λh=>h3.2.1 (by
   rw[Qz _ _ (Qw hji),Zdf f];exact h)
  refine⟨C,ih (listed.setIfInBounds j true) a' w' u (ready_mono hr (Qw hji)) h3.1 C ?_⟩;rw[Qz _ _ hji];exact h3.2.2
theorem Zj{i:Nat}{oi:Oper}{v:Value}{fuel:Nat}{listed:Array Bool}{a:Act}{w:World}(hi:ops[i]?=some oi)
    (hs:Region.noSelect ops=true) (hf:Region.free md ops listed i=true) (hr:(Region.ready md ops listed).contains i=true) (hL:L.contains i=false)
    (hy:YieldsIf P ops (λ_=>True) oi v a) (hS:Zcx L listed=true->S w)
    (h:Zab P md ops (OnlyNormal Q) L S fuel (listed.setIfInBounds i true) (a.put oi.dst v) w):Zab P md ops (OnlyNormal Q) L S (fuel+1) listed a w:=
 Zkv hi (Region.noSelect_spec hs) (λ_ _ _ h=>(h:False).elim) hL fuel listed a w (Region.free_spec hi hf) (by simpa using hr) hy hS h
end
def Zg8(md:Region.Mode)(ops:Array Oper)(L:List Nat):List Nat->Array Bool->Bool
 | [],_=>true
 | i::is,l=>Region.free md ops l i && (Region.ready md ops l).contains i && !L.contains i && Zg8 md ops L is (l.setIfInBounds i true)
section
variable{P:Program}{ops:Array Oper}{Q:Exit->Act->World->Prop}{md:Region.Mode}{L:List Nat}{S:World->Prop}
theorem Zf9(hs:Region.noSelect ops=true){w:World}(hS:S w):∀ (is:List Nat) (F:Nat) (listed:Array Bool) (a:Act),Zg8 md ops L is listed=true->Zcw P ops (λ_=>True) is a (λa'=>Zab P md ops (OnlyNormal Q) L S F (Zd3 is listed) a' w)->Zab P md ops (OnlyNormal Q) L S (F+is.length) listed a w
 | [],F,l,a,_,h=>h
 | i::is,F,l,a,hc,h=>by
  obtain⟨oi,v,ho,hy,h2⟩:=h;simp only[Zg8,Qd,Qn]at hc;exact Zj ho hs hc.1.1.1 hc.1.1.2 hc.1.2 hy (λ_=>hS) (Zf9 hs hS is F _ _ hc.2 h2)
theorem Zgt{F:Nat}{listed:Array Bool}{a:Act}{w:World}(k:Nat)(is:List Nat)(hk:is.length=k)(hc:(Region.noSelect ops && Zg8 md ops L is listed)=true)(hS:S w)
    (h:Zcw P ops (λ_=>True) is a (λa'=>Zab P md ops (OnlyNormal Q) L S F (Zd3 is listed) a' w)):Zab P md ops (OnlyNormal Q) L S (F+k) listed a w:=by
 rw[Qd]at hc;subst hk;exact Zf9 hc.1 hS is F listed a hc.2 h
end
def Zbk(R:List Nat)(att:Nat->List Nat):List Nat:=R.flatMap λi=>i::att i
def Zi3(md:Region.Mode)(ops:Array Oper)(l:Array Bool)(i:Nat):List Nat->List Nat->Bool
 | [],_=>true
 | u::us,done=>(match ops[u]? with|some o=>o.dst.isSome|none=>false) && (Zbf md ops u).contains i && !l.getD u true && (Zbf md ops u).all (λp=>p == i || done.contains p || l.getD p false || (Zbf md ops i).contains p) &&
     ((List.range ops.size).all λj=>j == u || (j == i || done.contains j || l.getD j false || (Zbf md ops i).contains j) || (Zbf md ops j).contains u || (match ops[u]?,ops[j]? with|some ou,some oj=>ou.apart ops oj|_,_=>true)) && Zi3 md ops l i us (u::done)
def Zw9(md:Region.Mode)(ops:Array Oper)(att:Nat->List Nat):List Nat->Array Bool->Bool
 | [],_=>true
 | r::rs,l=>!l.getD r true && (match ops[r]? with|some o=>o.dst.isSome|none=>false) && (Zbf md ops r).all (λp=>l.getD p false) && Zw9 md ops att rs (Zbu (r::att r) l)
def Z15(md:Region.Mode)(ops:Array Oper)(R F:List Nat)(l:Array Bool):Bool:=
 (List.range ops.size).all λk=>F.contains k || l.getD k true || (Zbf md ops k).any (λp=>!F.contains p && !l.getD p false) || (R.all λr=>(clo md ops F.reverse (Zbf md ops k)).contains r)
def Zmu(md:Region.Mode)(ops:Array Oper)(R:List Nat)(att:Nat->List Nat)(l:Array Bool):Bool:=
 Zw9 md ops att R l && Z15 md ops R (Zbk R att) l && Zcd ((Zbk R att).map (Zbm ops)) && decide (l.size=ops.size) && R.all (λi=>Zi3 md ops l i (att i) []) && Region.noSelect ops
section
variable{P:Program}{ops:Array Oper}{Q:Exit->Act->World->Prop}{md:Region.Mode}{L:List Nat}{S:World->Prop}
def Ztf(P:Program)(ops:Array Oper)(Φ:Nat->Value->World->Prop)(w:World):List Nat->Act->Prop
 | [],_=>True
 | u::us,a=>∃ o v,ops[u]?=some o/\YieldsIf P ops (λ_=>True) o v a/\Φ u v w/\Ztf P ops Φ w us (a.put o.dst v)
theorem Zhy{l:Array Bool}{i:Nat}(h:i<l.size):(l.setIfInBounds i true).getD i false=true:=by
 rw[Qb,Qs,Gx h];rfl
theorem Zch{us:List Nat}{l:Array Bool}{k:Nat}(h:l.getD k false=true):(Zbu us l).getD k false=true:=by
 induction us generalizing l with
 | nil=>exact h
 | cons u us ih=>exact ih (l:=l.setIfInBounds u true) (Za3 h)
theorem Znt{us:List Nat}{l:Array Bool}{k:Nat}(hk:k ∈ us)(h:k<l.size):(Zbu us l).getD k false=true:=by
 induction us generalizing l with
 | nil=>cases hk
 | cons u us ih =>
  rcases List.mem_cons.1 hk with rfl|hk;exact Zch (us:=us) (Zhy h);exact ih (l:=l.setIfInBounds u true) hk (by simp;exact h)
theorem Zvp{Φ:Nat->Value->World->Prop}{l0:Array Bool}{i:Nat}{R:List Nat}{a0:Act}{w:World}{F:Nat}(hns:Region.noSelect ops=true)(hnd:Zcd (R.map (Zbm ops))=true)(hiR:i ∈ R) :
    ∀ (us done:List Nat) (l:Array Bool) (ν:Nat->Value),Zi3 md ops l0 i us done=true->(∀ u ∈ us,u ∈ R)->(∀ u ∈ us,u ∉ L)->(∀ u ∈ us,l.getD u true=false)->l.size=ops.size->Zcd us=true ->
     (∀ p,l0.getD p false=true->l.getD p false=true)->l.getD i false=true->(∀ p ∈ Zbf md ops i,l.getD p false=true)->(∀ u ∈ done,l.getD u false=true)->S w ->
     Ztf P ops Φ w us (Zap (R.map (Zbm ops)) a0 ν) ->
     (∀ ν',(∀ k,(∀ u ∈ us,Zbm ops u≠k)->ν' k=ν k)->(∀ u ∈ us,Φ u (ν' (Zbm ops u)) w)->Zab P md ops (OnlyNormal Q) L S F (Zbu us l) (Zap (R.map (Zbm ops)) a0 ν') w) ->
     Zab P md ops (OnlyNormal Q) L S (us.length+F) l (Zap (R.map (Zbm ops)) a0 ν) w:=by
 intro us
 induction us with
 | nil =>
  intro done l ν _ _ _ _ _ _ _ _ _ _ _ _ h;rw[show ([]:List Nat).length+F=F by simp];exact h ν (λ_ _=>rfl) (λu hu=>by cases hu)
 | cons u us ih =>
  intro done l ν hat hR hL hun hsz hndu hl0 hi hp hdone hS htr h;simp only[Zi3,Qd,Qe]at hat;obtain⟨⟨⟨⟨⟨h1,h2⟩,h3⟩,h4⟩,h5⟩,h6⟩:=hat;obtain⟨o,v,ho,hy,hΦ,C⟩:=htr;obtain⟨n1,n2⟩:=Zb7 hndu;have U:u<ops.size:=(Array.getElem?_eq_some_iff.1 ho).1;have T:=hun u (Qc ..)
  have f:u ∈ Region.ready md ops l:=Zh7 T ho (λp hp2=>by
   have h7:=h4 p hp2;simp only[QE,beq_iff_eq]at h7;rcases h7 with ((h7|h7)|h7)|h7;rw[h7];exact hi;exact hdone p (List.contains_iff_mem.1 h7);exact hl0 p h7;exact hp p (List.contains_iff_mem.1 h7))
  have I:o.dst=some (Zbm ops u):=by
   rw[ho]at h1;obtain⟨d,hd⟩:=Option.isSome_iff_exists.1 h1;unfold Zbm;rw[ho];simp only[hd,Qo]
  have J:Zbm ops u ∈ R.map (Zbm ops):=List.mem_map.2 ⟨u,hR u (Qc ..),rfl⟩;rw[QI,QO]
  refine Zkv ho (Region.noSelect_spec hns) (λ_ _ _ h=>(h:False).elim) (by
   cases hc:L.contains u with
   | false=>rfl
   | true=>exact absurd (List.contains_iff_mem.1 hc) (hL u (Qc ..))) _ l _ w (λj oj hoj hju hjl hnw=>?_) f hy (λ_=>hS) ?_
  ·have h7:=h5 j (List.mem_range.2 (Array.getElem?_eq_some_iff.1 hoj).1)
   simp only[QE,beq_iff_eq]at h7;rcases h7 with ((h7|h7)|h7)|h7;exact absurd h7 hju
   ·exfalso
    have h8:l.getD j false=true:=by
     rcases h7 with ((h7|h7)|h7)|h7;rw[h7];exact hi;exact hdone j (List.contains_iff_mem.1 h7);exact hl0 j h7;exact hp j (List.contains_iff_mem.1 h7)
    rw[Ze0 h8]at hjl;cases hjl
   ·exfalso
    have h8:=List.contains_iff_mem.1 h7;unfold Zbf at h8;rw[hoj]at h8;obtain⟨e,he,O⟩:=List.mem_map.1 h8;rw[QT]at he;exact hnw e (by simpa using he.1) he.2 O
   rw[ho,hoj]at h7;exact h7
  rw[I,Zlo J hnd];refine ih (u::done) (l.setIfInBounds u true) (upd ν (Zbm ops u) v) h6 (λx hx=>hR x (Qa _ hx)) (λx hx=>hL x (Qa _ hx)) (λx hx=>?_) (by simp;exact hsz) n2 (λp hp2=>Za3 (hl0 p hp2)) (Za3 hi) (λp hp2=>Za3 (hp p hp2)) (λx hx=>?_) hS ?_ (λν' k1 k2=>?_)
  ·rw[Go.getD_set_ne true (λe:u=x=>n1 (e▸hx))]
   exact hun x (Qa _ hx)
  ·rcases List.mem_cons.1 hx with rfl|hx
   exact Zhy Gk;exact Za3 (hdone x hx)
  ·rw[I,Zlo J hnd]at C
   exact C
  refine h ν' (λk hk=>?_) (λx hx=>?_)
  ·rw[k1 k (λx hx=>hk x (Qa _ hx))]
   simp only[upd,Gw (Qw (hk u (Qc ..)))]
  rcases List.mem_cons.1 hx with rfl|hx
  ·have h9:∀ y ∈ us,Zbm ops y≠Zbm ops x:=λy hy=>Zf8 hnd (hR y (Qa _ hy)) (hR x (Qc ..)) (λe=>n1 (e▸hy))
   rw[k1 _ h9];simp only[upd,if_true];exact hΦ
  exact k2 x hx
theorem Zn0{us:List Nat}{l:Array Bool}{k:Nat}(h:(Zbu us l).getD k false=true):k ∈ us \/ l.getD k false=true:=by
 induction us generalizing l with
 | nil=>exact .inr h
 | cons u us ih =>
  rcases ih (l:=l.setIfInBounds u true) h with h1|h1;exact .inl (Qa _ h1);by_cases hk:u=k;exact .inl (hk▸Qc ..);rw[Go.getD_set_ne false hk]at h1;exact .inr h1
theorem Zhx{us:List Nat}{l:Array Bool}{k:Nat}(h:(Zbu us l).getD k true=false):l.getD k true=false:=by
 rw[Zcl]at h
 split at h
 cases h;exact h
theorem Zjz{att:Nat->List Nat}:∀ (R:List Nat) (l0:Array Bool),Zw9 md ops att R l0=true->(∀ r ∈ R,l0.getD r true=false/\∃ o d,ops[r]?=some o/\o.dst=some d) /\
      ∀ l:Array Bool,l.size=l0.size->(∀ k,l0.getD k false=true->l.getD k false=true)->(∀ r ∈ R,l.getD r true=true->∀ u ∈ att r,l.getD u false=true)->(∃ r ∈ R,l.getD r true=false)->∃ r ∈ R,l.getD r true=false/\∀ p ∈ Zbf md ops r,l.getD p false=true
 | [],_,_=>⟨λr hr=>(by cases hr),λl _ _ _ ⟨r,hr,_⟩=>(by cases hr)⟩
 | r::R,l0,h=>by
  simp only[Zw9,Qd,Qn,Qe]at h;obtain⟨⟨⟨h1,h2⟩,h3⟩,h4⟩:=h;obtain⟨k1,k2⟩:=Zjz R _ h4;refine⟨λx hx=>?_,λl hsz hl hat hu=>?_⟩
  ·rcases List.mem_cons.1 hx with rfl|hx
   ·refine⟨h1,?_⟩
    cases ho:ops[x]? with
    | none=>rw[ho]at h2;cases h2
    | some o =>
     rw[ho]at h2;obtain⟨d,hd⟩:=Option.isSome_iff_exists.1 h2;exact⟨o,d,rfl,hd⟩
   obtain⟨m1,m2⟩:=k1 x hx;exact⟨Zhx m1,m2⟩
  by_cases hr:l.getD r true=false;exact⟨r,Qc ..,hr,λp hp=>hl p (h3 p hp)⟩;have e:l.getD r true=true:=by simpa using hr
  have O:r<l0.size:=by
   rcases QD r l0.size with h'|h';exact h';rw[Qb,Qu h']at h1;cases h1
  have I:r<l.size:=Gk
  have J:l.getD r false=true:=by
   rw[Qb,Qf I]at e ⊢;exact e
  obtain⟨x,hx,C⟩:=k2 l (by rw[Zg5];exact hsz) (λk hk=>by
   rcases Zn0 hk with h5|h5
   ·rcases List.mem_cons.1 h5 with rfl|h5
    exact J;exact hat r (Qc ..) e k h5
   ·exact hl k h5) (λy hy=>hat y (Qa _ hy)) (by
   obtain⟨y,hy,f⟩:=hu;rcases List.mem_cons.1 hy with rfl|hy;exact absurd f hr;exact⟨y,hy,f⟩)
  exact⟨x,Qa _ hx,C⟩
theorem Zqw{R:List Nat}(hn:Zcd R=true):∀ (us:List Nat) (l:Array Bool),Zcd us=true->(∀ u ∈ us,u ∈ R)->(∀ u ∈ us,l.getD u true=false)->left R (Zbu us l)+us.length=left R l:=by
 intro us
 induction us with
 | nil=>intro l _ _ _;rfl
 | cons u us ih =>
  intro l h1 h2 h3;obtain⟨n1,n2⟩:=Zb7 h1;have h4:=Zmy hn (h2 u (Qc ..)) (h3 u (Qc ..))
  have h5:=ih (l.setIfInBounds u true) n2 (λx hx=>h2 x (Qa _ hx)) (λx hx=>by
   rw[Go.getD_set_ne true (λe:u=x=>n1 (e▸hx))];exact h3 x (Qa _ hx))
  show left R (Zbu us (l.setIfInBounds u true))+(us.length+1)=_;omega
theorem Zez:∀ {a b:List Nat},Zcd (a++b)=true->Zcd b=true
 | [],_,h=>h
 | _::a,_,h=>Zez (a:=a) (Zb7 h).2
theorem Zfe:∀ {a b:List Nat},Zcd (a++b)=true->Zcd a=true
 | [],_,_=>rfl
 | x::a,b,h=>by
  obtain⟨h1,h2⟩:=Zb7 (x:=x) (l:=a++b) h;simp only[Zcd,Qd,Qn];refine⟨?_,Zfe h2⟩;cases hc:a.contains x with
  | false=>rfl
  | true=>exact absurd (List.mem_append_left _ (List.contains_iff_mem.1 hc)) h1
theorem Zl0:∀ {a b:List Nat},Zcd (a++b)=true->∀ x,x ∈ a->x ∉ b
 | [],_,_,x,hx=>by cases hx
 | y::a,b,h,x,hx=>by
  obtain⟨h1,h2⟩:=Zb7 (x:=y) (l:=a++b) h;rcases List.mem_cons.1 hx with e|e;intro hb;exact h1 (List.mem_append_right _ (e▸hb));exact Zl0 h2 x e
theorem Zt6{att:Nat->List Nat}:∀ {R:List Nat},Zcd (Zbk R att)=true->∀ r ∈ R,Zcd (r::att r)=true/\∀ r' ∈ R,r'≠r->∀ x ∈ r::att r,x ∉ r'::att r'
 | [],_,r,hr=>by cases hr
 | y::R,h,r,hr=>by
  have e:Zbk (y::R) att=(y::att y)++Zbk R att:=rfl;rw[e]at h;have h1:=Zfe h;have h2:=Zez h;have h3:=Zl0 h;have f:∀ z ∈ R,∀ x ∈ z::att z,x ∈ Zbk R att:=λz hz x hx=>List.mem_flatMap.2 ⟨z,hz,hx⟩;by_cases hry:r=y
  ·subst hry
   refine⟨h1,λr' hr' hne x hx hx2=>?_⟩;rcases List.mem_cons.1 hr' with h4|h4;exact hne h4;exact h3 x hx (f r' h4 x hx2)
  have o:r ∈ R:=by
    rcases List.mem_cons.1 hr with h4|h4;exact absurd h4 hry;exact h4
  obtain⟨k1,k2⟩:=Zt6 h2 r o;refine⟨k1,λr' hr' hne x hx hx2=>?_⟩;by_cases hr'y:r'=y
  ·subst hr'y
   exact h3 x hx2 (f r o x hx)
  rcases List.mem_cons.1 hr' with h4|h4;exact hr'y h4;exact k2 r' h4 hne x hx hx2
theorem Z2e(R:List Nat)(att:Nat->List Nat)(D:List Nat)(hDR:∀ i ∈ D,i ∈ R)(Φ:Nat->Value->World->Prop){l0:Array Bool}{a0:Act}{w0:World}(hok:Zmu md ops R att l0=true)(hL:∀ u ∈ Zbk R att,u ∉ L)
    (hst:∀ i ∈ Zbk R att,∀ v w w',Below w.heap.size w w'->Φ i v w->Φ i v w') (hS:∀ w',Below w0.heap.size w0 w'->S w') {F:Nat}
    (hop:∀ i ∈ R,∀ (ν:Nat->Value) (w:World),Below w0.heap.size w0 w->(∀ j ∈ Zbk R att,j ∈ Zbf md ops i->Φ j (ν (Zbm ops j)) w) ->
     wpOp P ops (OnlyNormal Q) i (λa' w'=>∃ v,a'=(Zap ((Zbk R att).map (Zbm ops)) a0 ν).put (some (Zbm ops i)) v/\Φ i v w'/\Below w.heap.size w w'/\Ztf P ops Φ w' (att i) a'/\(i ∈ D->∀ j ∈ D,∀ u,Φ j u w->v≠u)) (Zap ((Zbk R att).map (Zbm ops)) a0 ν) w)
    (hfin:∀ (ν:Nat->Value) (w:World),Below w0.heap.size w0 w->(∀ i ∈ Zbk R att,Φ i (ν (Zbm ops i)) w)->(∀ i ∈ D,∀ j ∈ D,i≠j->ν (Zbm ops i)≠ν (Zbm ops j))->Zab P md ops (OnlyNormal Q) L S F (Zbu (Zbk R att) l0) (Zap ((Zbk R att).map (Zbm ops)) a0 ν) w) :
    ∀ (n:Nat) (l:Array Bool) (ν:Nat->Value) (w:World),n=left (Zbk R att) l->l.size=l0.size->(∀ k,k ∉ Zbk R att->l.getD k true=l0.getD k true)->(∀ k,l0.getD k false=true->l.getD k false=true) ->
     (∀ r ∈ Zbk R att,l.getD r false=true->∀ p ∈ Zbf md ops r,l.getD p false=true) ->
     (∀ r ∈ R,∀ u ∈ att r,(l.getD r true=true->l.getD u false=true)/\(l.getD r true=false->l.getD u true=false))->Below w0.heap.size w0 w->(∀ r ∈ Zbk R att,l.getD r true=true->Φ r (ν (Zbm ops r)) w)->(∀ i ∈ D,∀ j ∈ D,i≠j->l.getD i true=true->l.getD j true=true->ν (Zbm ops i)≠ν (Zbm ops j)) ->
     Zab P md ops (OnlyNormal Q) L S (n+F) l (Zap ((Zbk R att).map (Zbm ops)) a0 ν) w:=by
 simp only[Zmu,Qd,decide_eq_true_eq]at hok;obtain⟨⟨⟨⟨⟨c5,b3⟩,a4⟩,d3⟩,a1⟩,d0⟩:=hok;rw[Qe]at a1;obtain⟨t1,t2⟩:=Zjz R l0 c5;have a2:=Zm5 a4;have I:∀ r ∈ R,r ∈ Zbk R att:=λr hr=>List.mem_flatMap.2 ⟨r,hr,Qc ..⟩;have f:∀ r ∈ R,∀ u ∈ att r,u ∈ Zbk R att:=λr hr u hu=>List.mem_flatMap.2 ⟨r,hr,Qa _ hu⟩
 have a6:∀ r ∈ R,∀ u ∈ att r,r ∈ Zbf md ops u/\(∃ o,ops[u]?=some o):=λr hr=>by
  have:∀ (us done:List Nat),Zi3 md ops l0 r us done=true->∀ u ∈ us,r ∈ Zbf md ops u/\(∃ o,ops[u]?=some o):=by
   intro us
   induction us with
   | nil=>intro _ _ u hu;cases hu
   | cons x us ih =>
    intro done h u hu;simp only[Zi3,Qd]at h;rcases List.mem_cons.1 hu with rfl|hu
    ·refine⟨List.contains_iff_mem.1 h.1.1.1.1.2,?_⟩
     cases ho:ops[u]? with
     | none=>have:=h.1.1.1.1.1;rw[ho]at this;cases this
     | some o=>exact⟨o,rfl⟩
    exact ih _ h.2 u hu
  exact this (att r) [] (a1 r hr)
 intro n
 induction n using Nat.strongRecOn with
 | _ n ih =>
  intro l ν w hn hsz hK hM hD hA hb hΦ hNE
  have V:∀ r ∈ Zbk R att,r<l.size:=λx hx=>by
   obtain⟨r,hr,U⟩:=List.mem_flatMap.1 hx;rcases List.mem_cons.1 U with rfl|U
   ·obtain⟨-,o,d,ho,-⟩:=t1 x hr
    have:=(Array.getElem?_eq_some_iff.1 ho).1;omega
   obtain⟨-,o,ho⟩:=a6 r hr x U;have:=(Array.getElem?_eq_some_iff.1 ho).1;omega
  have d4:∀ k,k<l.size->l.getD k true=true->l.getD k false=true:=λk hk h=>by
   rw[Qb,Qf hk]at h ⊢;exact h
  by_cases hex:∃ r ∈ R,l.getD r true=false
  ·obtain⟨r,hr,b5,c3⟩:=t2 l hsz hM (λr hr h u hu=>(hA r hr u hu).1 h) hex
   obtain⟨-,o,d,ho,-⟩:=t1 r hr;have a3:=Zh7 (md:=md) b5 ho c3
   obtain⟨m,rfl⟩:∃ m,n=m+1:=by
    have:=Zmy a2 (I r hr) b5;exact⟨left (Zbk R att) (l.setIfInBounds r true),by omega⟩
   rw[QO];refine⟨λh0=>(by rw[h0]at a3;cases a3),λi hi=>?_⟩;obtain⟨a7,c6,Y⟩:=Zm4 hi
   have T:i ∈ Zbk R att:=by
    apply Classical.byContradiction;intro b9;unfold Z15 at b3;rw[Qe]at b3;have h1:=b3 i (List.mem_range.2 c6);simp only[QE,List.any_eq_true,Qe,Qd,Qn]at h1;rcases h1 with ((h1|h1)|⟨p,hp,h2,h3⟩)|h1;exact b9 (List.contains_iff_mem.1 h1);rw[hK i b9,h1]at a7;cases a7
    ·have c8:p ∉ Zbk R att:=λh=>by rw[List.contains_iff_mem.2 h]at h2;cases h2
     have h4:=Y p hp;have h5:=Ze0 h4;rw[hK p c8]at h5
     have d7:p<l.size:=by
      rcases QD p l.size with h'|h';exact h';rw[Qb,Qu h']at h4;cases h4
     rw[Qb,Qf Gk]at h5 h3;simp only[Qo]at h5 h3;rw[h5]at h3;cases h3
    have h2:=Zuo (md:=md) (ops:=ops) (l:=l) (R:=Zbk R att) hD (Zbk R att).reverse (Zbf md ops i) (λr hr=>List.mem_reverse.1 hr) Y;have h3:=Ze0 (h2 r (List.contains_iff_mem.1 (h1 r hr)));rw[b5]at h3;cases h3
   have J:i ∈ R:=by
    obtain⟨r',O,hx⟩:=List.mem_flatMap.1 T;rcases List.mem_cons.1 hx with rfl|hx;exact O;exfalso;have h1:=Ze0 (Y r' (a6 r' O i hx).1);have h2:=Ze0 ((hA r' O i hx).1 h1);rw[a7]at h2;cases h2
   have c7:Zbm ops i ∈ (Zbk R att).map (Zbm ops):=List.mem_map.2 ⟨i,T,rfl⟩;obtain⟨c1,b1⟩:=Zt6 a2 i J;obtain⟨ni,nus⟩:=Zb7 c1;refine wpOp_mono (λa' w' h=>?_) (hop i J ν w hb λj hj hp=>hΦ j hj (Ze0 (Y j hp)));obtain⟨v,rfl,hv,c2,b8,b7⟩:=h;have b6:=Gs hb c2;refine⟨λ_=>hS _ b6,?_⟩;rw[Zlo c7 a4]at b8 ⊢;have a9:(l.setIfInBounds i true).getD i false=true:=Zhy (V i T)
   have b2:∀ u ∈ att i,(l.setIfInBounds i true).getD u true=false:=λu hu=>by
    rw[Go.getD_set_ne true (λe:i=u=>ni (e▸hu))];exact(hA i J u hu).2 a7
   have d5:=Zmy a2 T a7;have d6:=Zqw a2 (att i) (l.setIfInBounds i true) nus (f i J) b2;have hm:m=(att i).length+left (Zbk R att) (Zbu (att i) (l.setIfInBounds i true)):=Gk;rw[hm,Nat.add_assoc];refine Zvp (R:=Zbk R att) d0 a4 T (att i) [] (l.setIfInBounds i true) _ (a1 i J) (f i J) (λu hu=>hL u (f i J u hu)) b2 Gg nus (λp hp=>Za3 (hM p hp)) a9 (λp hp=>Za3 (Y p hp)) (λu hu=>by cases hu) (hS _ b6) b8 (λν' k1 k2=>?_)
   have hνi:ν' (Zbm ops i)=v:=by
    rw[k1 _ (λu hu=>Zf8 a4 (f i J u hu) T (λe=>ni (e▸hu)))];simp only[upd,if_true]
   have hνo:∀ x ∈ Zbk R att,x≠i->x ∉ att i->ν' (Zbm ops x)=ν (Zbm ops x):=λx hx h1 h2=>by
    rw[k1 _ (λu hu=>Zf8 a4 (f i J u hu) hx (λe=>h2 (e▸hu)))];simp only[upd,Gw (Zf8 a4 hx T h1)]
   refine ih _ Gk (Zbu (att i) (l.setIfInBounds i true)) ν' w' rfl (by rw[Zg5];simp;exact hsz) (λk hk=>?_) (λk hk=>Zch (Za3 (hM k hk))) (λx hx hxt p hp=>?_) (λr' O u hu=>?_) b6 (λx hx hxt=>?_) (λa ha b hb' hab hat hbt=>?_)
   ·rw[Zcl,Gw (λh=>hk (f i J k h)),Go.getD_set_ne true (λe:i=k=>hk (e▸T))]
    exact hK k hk
   ·rcases Zn0 hxt with h1|h1
    ·-- an operation of the train
     have h2:∀ (us done:List Nat),Zi3 md ops l0 i us done=true->(∀ u ∈ done,(Zbu (att i) (l.setIfInBounds i true)).getD u false=true)->(∀ u ∈ us,u ∈ att i)->∀ u ∈ us,∀ p ∈ Zbf md ops u,(Zbu (att i) (l.setIfInBounds i true)).getD p false=true:=by
      intro us
      induction us with
      | nil=>intro _ _ _ _ u hu;cases hu
      | cons y us ihu =>
       intro done h hd C u hu p hp;simp only[Zi3,Qd,Qe]at h;rcases List.mem_cons.1 hu with rfl|hu
       ·have h7:=h.1.1.2 p hp
        simp only[QE,beq_iff_eq]at h7;rcases h7 with ((h7|h7)|h7)|h7;rw[h7];exact Zch a9;exact hd p (List.contains_iff_mem.1 h7);exact Zch (Za3 (hM p h7));exact Zch (Za3 (Y p (List.contains_iff_mem.1 h7)))
       refine ihu (y::done) h.2 (λz hz=>?_) (λz hz=>C z (Qa _ hz)) u hu p hp;rcases List.mem_cons.1 hz with rfl|hz;exact Znt (C z (Qc ..)) (by simp;exact V z (f i J z (C z (Qc ..))));exact hd z hz
     exact h2 (att i) [] (a1 i J) (λu hu=>by cases hu) (λu hu=>hu) x h1 p hp
    by_cases hxi:i=x;subst hxi;exact Zch (Za3 (Y p hp));rw[Go.getD_set_ne false hxi]at h1;exact Zch (Za3 (hD x hx h1 p hp))
   ·by_cases hri:r'=i
    ·subst hri
     refine⟨λ_=>Znt hu (by simp;exact V u (f r' O u hu)),λh=>?_⟩;have h1:=Zhx h;rw[Ze0 a9]at h1;cases h1
    have b4:=b1 r' O hri;have c9:u ∉ att i:=λh=>b4 u (Qa _ h) (Qa _ hu);have c4:i≠u:=λh=>b4 i (Qc ..) (h▸Qa _ hu);have b0:r' ∉ att i:=λh=>b4 r' (Qa _ h) (Qc ..);refine⟨λh=>?_,λh=>?_⟩
    ·rw[Zcl,Gw b0,Go.getD_set_ne true (Qw hri)]at h
     exact Zch (Za3 ((hA r' O u hu).1 h))
    rw[Zcl,Gw b0,Go.getD_set_ne true (Qw hri)]at h;rw[Zcl,Gw c9,Go.getD_set_ne true c4];exact(hA r' O u hu).2 h
   ·by_cases hxi:x=i
    subst hxi;rw[hνi];exact hv;by_cases hxa:x ∈ att i;exact k2 x hxa;rw[hνo x hx hxi hxa];rw[Zcl,Gw hxa,Go.getD_set_ne true (Qw hxi)]at hxt;exact hst x hx _ _ _ c2 (hΦ x hx hxt)
   have c0:∀ x ∈ D,x ∉ att i:=λx hx h=>by
     by_cases hxi:x=i;exact ni (hxi▸h);exact b1 x (hDR x hx) hxi x (Qa _ h) (Qc ..)
   have a8:∀ x ∈ D,x≠i->(Zbu (att i) (l.setIfInBounds i true)).getD x true=true->ν' (Zbm ops x)=ν (Zbm ops x)/\l.getD x true=true:=λx hx hxi h=>by
    rw[Zcl,Gw (c0 x hx),Go.getD_set_ne true (Qw hxi)]at h;exact⟨hνo x (I x (hDR x hx)) hxi (c0 x hx),h⟩
   by_cases hai:a=i
   ·have a5:b≠i:=λh=>hab (hai.trans h.symm)
    obtain⟨e1,e2⟩:=a8 b hb' a5 hbt;rw[hai,hνi,e1];exact b7 (hai▸ha) b hb' _ (hΦ b (I b (hDR b hb')) e2)
   obtain⟨e1,e2⟩:=a8 a ha hai hat;by_cases a5:b=i
   ·rw[a5,hνi,e1]
    exact λh=>b7 (a5▸hb') a ha _ (hΦ a (I a (hDR a ha)) e2) h.symm
   obtain⟨e3,e4⟩:=a8 b hb' a5 hbt;rw[e1,e3];exact hNE a ha b hb' hab e2 e4
  have C:∀ x ∈ Zbk R att,l.getD x true=true:=λx hx=>by
    obtain⟨r,hr,U⟩:=List.mem_flatMap.1 hx
    have h1:l.getD r true=true:=by
     cases h:l.getD r true with
     | true=>rfl
     | false=>exact absurd ⟨r,hr,h⟩ hex
    rcases List.mem_cons.1 U with rfl|U;exact h1;exact Ze0 ((hA r hr x U).1 h1)
  have h0:left (Zbk R att) l=0:=by
   unfold left;rw[List.length_eq_zero_iff,List.filter_eq_nil_iff];intro r hr;rw[C r hr];simp
  have:l=Zbu (Zbk R att) l0:=by
   refine Zu6 (by rw[Zg5];exact hsz) λk=>?_;rw[Zcl];by_cases hk:k ∈ Zbk R att;rw[Gx hk];exact C k hk;rw[Gw hk];exact hK k hk
  subst this;rw[hn,h0,QP];exact hfin ν w hb (λi hi=>hΦ i hi (C i hi)) (λi hi j hj hij=>hNE i hi j hj hij (C i (I i (hDR i hi))) (C j (I j (hDR j hj))))
theorem Ztq(DP:List (Nat × Nat))(RP:List (Nat × Nat))(att:Nat->List Nat)(FP:List (Nat × Nat))(Φ:Nat->Value->World->Prop)(F:Nat){l0:Array Bool}{a0:Act}{w0:World}
    (hok:(Zmu md ops (RP.map (·.1)) att l0 && (Zbk (RP.map (·.1)) att == FP.map (·.1)) && FP.all (λp=>Zbm ops p.1 == p.2) && RP.all (λp=>Zbm ops p.1 == p.2) && FP.all (λp=>!L.contains p.1) && DP.all (λp=>RP.contains p))=true)
    (hst:∀ p ∈ FP,∀ v w w',Below w.heap.size w w'->Φ p.1 v w->Φ p.1 v w') (hS:∀ w',Below w0.heap.size w0 w'->S w')
    (hop:∀ p ∈ RP,∀ (ν:Nat->Value) (w:World),Below w0.heap.size w0 w->(∀ q ∈ FP,(Zbf md ops p.1).contains q.1=true->Φ q.1 (ν q.2) w) ->
     wpOp P ops (OnlyNormal Q) p.1 (λa' w'=>∃ v,a'=(Zap (FP.map (·.2)) a0 ν).put (some p.2) v/\Φ p.1 v w'/\Below w.heap.size w w'/\Ztf P ops Φ w' (att p.1) a'/\(p ∈ DP->∀ q ∈ DP,∀ u,Φ q.1 u w->v≠u)) (Zap (FP.map (·.2)) a0 ν) w)
    (hfin:∀ (ν:Nat->Value) (w:World),Below w0.heap.size w0 w->(∀ p ∈ FP,Φ p.1 (ν p.2) w)->(∀ p ∈ DP,∀ q ∈ DP,p≠q->ν p.2≠ν q.2)->Zab P md ops (OnlyNormal Q) L S F (Zbu (FP.map (·.1)) l0) (Zap (FP.map (·.2)) a0 ν) w) :
    Zab P md ops (OnlyNormal Q) L S (FP.length+F) l0 a0 w0:=by
 simp only[Qd,beq_iff_eq]at hok;obtain⟨⟨⟨⟨⟨h1,h2⟩,h3⟩,h4⟩,h5⟩,h6⟩:=hok;rw[Qe]at h6;have hD:=Zt7 (ops:=ops) FP h3;rw[<- h2]at hD;rw[Qe]at h3 h4 h5
 have I:∀ i,i ∈ Zbk (RP.map (·.1)) att->∃ p ∈ FP,p.1=i:=λi hi=>by
  rw[h2]at hi;exact List.mem_map.1 hi
 have V:=h1;simp only[Zmu,Qd,decide_eq_true_eq]at h1;obtain⟨⟨⟨⟨⟨Y,-⟩,a3⟩,a2⟩,C⟩,-⟩:=h1;obtain⟨t1,-⟩:=Zjz _ l0 Y
 have f:∀ i ∈ Zbk (RP.map (·.1)) att,l0.getD i true=false:=λx hx=>by
  obtain⟨r,hr,J⟩:=List.mem_flatMap.1 hx;rcases List.mem_cons.1 J with rfl|J;exact(t1 x hr).1;rw[Qe]at C
  have:∀ (us done:List Nat),Zi3 md ops l0 r us done=true->∀ u ∈ us,l0.getD u true=false:=by
   intro us
   induction us with
   | nil=>intro _ _ u hu;cases hu
   | cons y us ih =>
    intro done h u hu;simp only[Zi3,Qd,Qn]at h;rcases List.mem_cons.1 hu with rfl|hu;exact h.1.1.1.2;exact ih _ h.2 u hu
  exact this _ _ (C r hr) x J
 have U:left (Zbk (RP.map (·.1)) att) l0=FP.length:=by
  unfold left;rw[List.filter_eq_self.2 (λr hr=>by rw[f r hr];rfl),h2,Qm]
 have h:=Z2e (P:=P) (ops:=ops) (Q:=Q) (md:=md) (L:=L) (S:=S) (RP.map (·.1)) att (DP.map (·.1)) (λi hi=>by
  obtain⟨p,hp,rfl⟩:=List.mem_map.1 hi;exact List.mem_map.2 ⟨p,List.contains_iff_mem.1 (h6 p hp),rfl⟩) Φ (F:=F) (a0:=a0) (w0:=w0) V (λu hu=>by
  obtain⟨p,hp,rfl⟩:=I u hu;have:=h5 p hp;intro hc;rw[List.contains_iff_mem.2 hc]at this;cases this) (λi hi=>by
  obtain⟨p,hp,rfl⟩:=I i hi;exact hst p hp) hS (λi hi ν w hb hP=>by
  obtain⟨p,hp,rfl⟩:=List.mem_map.1 hi
  have:=hop p hp ν w hb (λq hq hc=>by
   have o:=hP q.1 (by rw[h2];exact List.mem_map.2 ⟨q,hq,rfl⟩) (List.contains_iff_mem.1 hc);have e:=h3 q hq;simp only[beq_iff_eq]at e;rw[e]at o;exact o)
  have e:=h4 p hp;simp only[beq_iff_eq]at e;rw[hD,e];refine wpOp_mono (λa' w' h=>?_) this;obtain⟨v,k1,k2,k3,k4,k5⟩:=h;refine⟨v,k1,k2,k3,k4,λhi j hj u hu=>?_⟩;obtain⟨p',T,O⟩:=List.mem_map.1 hi;obtain⟨q',a1,rfl⟩:=List.mem_map.1 hj;have e1:=h4 p' (List.contains_iff_mem.1 (h6 p' T));simp only[beq_iff_eq]at e1;have:p'=p:=Prod.ext O (by rw[<- e1,<- e,O]);exact k5 (this▸T) q' a1 u hu) (λν w hb hf hne=>by
  rw[hD,h2]
  exact hfin ν w hb (λp hp=>by
   have o:=hf p.1 (by rw[h2];exact List.mem_map.2 ⟨p,hp,rfl⟩);have e:=h3 p hp;simp only[beq_iff_eq]at e;rw[e]at o;exact o) (λp hp q hq hpq=>by
   have e1:=h4 p (List.contains_iff_mem.1 (h6 p hp));have e2:=h4 q (List.contains_iff_mem.1 (h6 q hq));simp only[beq_iff_eq]at e1 e2;have:=hne p.1 (List.mem_map.2 ⟨p,hp,rfl⟩) q.1 (List.mem_map.2 ⟨q,hq,rfl⟩) (λh=>hpq (Prod.ext h (by rw[<- e1,<- e2,h])));rw[e1,e2]at this;exact this)) FP.length l0 (λd=>a0.tmps.getD d undef) w0 U.symm rfl (λ_ _=>rfl) (λ_ h=>h)
  (λr hr h=>by have h1:=Ze0 h;rw[f r hr]at h1;cases h1)
  (λr hr u hu=>⟨λh=>(by rw[f r (List.mem_flatMap.2 ⟨r,hr,Qc ..⟩)]at h;cases h),λ_=>f u (List.mem_flatMap.2 ⟨r,hr,Qa _ hu⟩)⟩)
  (Below.refl _ _) (λr hr h=>by rw[f r hr]at h;cases h)
  (λi hi j hj _ h _=>by
   obtain⟨p,hp,rfl⟩:=List.mem_map.1 hi;rw[f p.1 (List.mem_flatMap.2 ⟨p.1,List.mem_map.2 ⟨p,List.contains_iff_mem.1 (h6 p hp),rfl⟩,Qc ..⟩)]at h;cases h)
 rw[Zuu]at h;exact h
theorem Za8(RP:List (Nat × Nat))(att:Nat->List Nat)(FP:List (Nat × Nat))(Φ:Nat->Value->World->Prop)(F:Nat){l0:Array Bool}{a0:Act}{w0:World}
    (hok:(Zmu md ops (RP.map (·.1)) att l0 && (Zbk (RP.map (·.1)) att == FP.map (·.1)) && FP.all (λp=>Zbm ops p.1 == p.2) && RP.all (λp=>Zbm ops p.1 == p.2) && FP.all (λp=>!L.contains p.1))=true)
    (hst:∀ p ∈ FP,∀ v w w',Below w.heap.size w w'->Φ p.1 v w->Φ p.1 v w') (hS:∀ w',Below w0.heap.size w0 w'->S w')
    (hop:∀ p ∈ RP,∀ (ν:Nat->Value) (w:World),Below w0.heap.size w0 w->(∀ q ∈ FP,(Zbf md ops p.1).contains q.1=true->Φ q.1 (ν q.2) w) ->
     wpOp P ops (OnlyNormal Q) p.1 (λa' w'=>∃ v,a'=(Zap (FP.map (·.2)) a0 ν).put (some p.2) v/\Φ p.1 v w'/\Below w.heap.size w w'/\Ztf P ops Φ w' (att p.1) a') (Zap (FP.map (·.2)) a0 ν) w)
    (hfin:∀ (ν:Nat->Value) (w:World),Below w0.heap.size w0 w->(∀ p ∈ FP,Φ p.1 (ν p.2) w)->Zab P md ops (OnlyNormal Q) L S F (Zbu (FP.map (·.1)) l0) (Zap (FP.map (·.2)) a0 ν) w) :
    Zab P md ops (OnlyNormal Q) L S (FP.length+F) l0 a0 w0:=
 Ztq [] RP att FP Φ F (by rw[hok];rfl) hst hS (λp hp ν w hb hP=>wpOp_mono (λa' w' h=>by
  obtain⟨v,k1,k2,k3,k4⟩:=h;exact⟨v,k1,k2,k3,k4,λh=>by cases h⟩) (hop p hp ν w hb hP)) (λν w hb hf _=>hfin ν w hb hf)
end
def Za1(B0:Nat)(q:Rat)(ca mv x0 x1 al as_:Nat)(i:Nat)(v:Value)(w:World):Prop:=
 if i=ca \/ i=mv then ∃ na A n c nb B m d,v=.tuple #[.agg #[.bool na,.slice A n c,.bool nb,.slice B m d],.int .i64 0]/\Fr w na A n c nb B m d q
 else if i=x0 then ∃ na A n c nb B m d,v=.agg #[.bool na,.slice A n c,.bool nb,.slice B m d]/\Fr w na A n c nb B m d q
 else if i=x1 \/ i=as_ then v=.int .i64 0
 else if i=al then ∃ g,v=.pointer (some ⟨g,0,none⟩)/\B0<=g/\Blk w g 41 #[.bool false,.slice none 0 0,.bool false,.slice none 0 0]
 else True
theorem Fc{G:Prop}(h:G:=by
 obtain⟨na,A,n,c,nb,B,m,d,e,hf⟩:=h;exact⟨na,A,n,c,nb,B,m,d,e,hf.below hb⟩):G:=h
theorem Zhu{B0:Nat}{q:Rat}{ca mv x0 x1 al as_ i:Nat}{v:Value}{w w':World}(hb:Below w.heap.size w w')(h:Za1 B0 q ca mv x0 x1 al as_ i v w):Za1 B0 q ca mv x0 x1 al as_ i v w':=by
 unfold Za1 at h ⊢
 split at h
 ·rename_i h1;rw[Gx h1]
  exact Fc
 rename_i h1;rw[Gw h1]
 split at h
 ·rename_i h2;rw[Gx h2]
  exact Fc
 rename_i h2;rw[Gw h2]
 split at h
 rename_i h3;rw[Gx h3];exact h;rename_i h3;rw[Gw h3]
 split at h
 ·rename_i h4;rw[Gx h4]
  obtain⟨g,e,h5,h6⟩:=h;exact⟨g,e,h5,Zc hb h6⟩
 rename_i h4;rw[Gw h4];trivial
theorem FOwn.keptG{t:TypeId}{w w':World}{g:Nat}{qs:List Rat}{G:Nat->Prop}(h:FOwn t w g qs)(hk:Kept G w w')(hg:¬ G g)(hG:∀ k,G k->∃ t cs,Blk w k t cs/\NoLimb cs):FOwn t w' g qs:=by
 obtain⟨es,zs,h1,h2,h3⟩:=h;exact⟨es,zs,hk.blk h1 hg,λe he=>⟨hk.wd (h2 e he).1 hG,hk.wd (h2 e he).2 hG⟩,h3⟩
theorem Fr.zero_iff{w:World}{na:Bool}{A:Option Addr}{n c:Nat}{nb:Bool}{B:Option Addr}{m d:Nat}{r:Rat}(h:Fr w na A n c nb B m d r):n=0 ↔ r=0:=by
 have h1:=h.1.lim.len;have h2:=length_digits_pos (v:=r.num.natAbs);constructor
 ·intro hn
  have:r.num=0:=Gk;exact Rat.num_eq_zero.1 this
 rintro rfl;have:(0:Rat).num.natAbs=0:=rfl;omega
attribute [local go_sem] Zg
theorem Zkr(L:List RF)(i j:Nat):Zh (L.map RF.q) i j=(Zde L i)[j]?.getD 0:=by unfold Zh Zde;rw[Ql]
theorem Zb3{α:Type}{L:List α}{i:Nat}(h:i<L.length):∃ r,L[i]?=some r:=⟨_,Qh h⟩
theorem Z2r{α β:Type}{f:α->β}{L M:List α}(h:L.map f=M.map f){i:Nat}{r s:α}(hr:L[i]?=some r)(hs:M[i]?=some s):f r=f s:=by
 have h1:(L.map f)[i]?=some (f r):=by rw[Ql,hr];rfl
 have h2:(M.map f)[i]?=some (f s):=by rw[Ql,hs];rfl
 rw[h,h2]at h1;exact(Option.some.inj h1).symm
theorem Ze1{α β:Type}{f:α->β}{L:List α}{i:Nat}{r s:α}(hr:L[i]?=some r)(h:f s=f r):(L.set i s).map f=L.map f:=by
 rw[List.map_set];apply List.ext_getElem?;intro j;rw[QH]
 split
 ·rename_i hij
  subst hij;have hi:=(List.getElem?_eq_some_iff.1 hr).1;rw[Gx (by simpa using hi),Ql,hr,h];rfl
 rfl
theorem Ic{G:Prop}(h:G:=by
 rw[List.getElem?_set];by_cases h:i=j;subst h;rw[Gx rfl,Gx hi,Gx rfl];rfl;rw[Gw h,Gw (Ne.symm h)]):G:=h
theorem Zts{L:List RF}{i j:Nat}{r:RF}(hi:i<L.length):Zde (L.set i r) j=if j=i then r.q else Zde L j:=by
 unfold Zde;exact Ic
def ClrTo(L L2:List RF)(r col i:Nat):Prop:=∀ j,j<L.length->Zde L2 j=if j<=r \/ i<=j then Zde L j else Zot (Zde L r) (Zde L j) col
theorem FH{G:Prop}(h:G:=by
 by_cases h1:j<=r \/ i<=j;rw[Gx h1,Gx Gk];rw[Gw h1,Gw Gk]):G:=h
theorem CE{G:Prop}(h:G:=by
 by_cases iB:j=i;subst iB;rw[Gx rfl,hx,Gw Gk];rw[Gw iB];exact FH):G:=h
theorem ClrTo.step{L L2:List RF}{r col i:Nat}{x:RF}(h:ClrTo L L2 r col i)(hl:L2.length=L.length)(hi:i<L.length)(hri:r<i)(hx:x.q=Zot (Zde L r) (Zde L i) col):ClrTo L (L2.set i x) r col (i+1):=by
 intro j hj;rw[Zts Gk,h j hj];exact CE
theorem Cm{G:Prop}(h:G:=by
 by_cases h1:i<=r;rw[Gx (Or.inl h1),Gx h1];rw[Gw Gk,Gw h1]):G:=h
theorem ClrTo.done{L L2:List RF}{r col:Nat}(h:ClrTo L L2 r col L.length)(hl:L2.length=L.length):L2.map RF.q=Zbr (L.map RF.q) r col:=by
 refine Z2u (by rw[Ze9];simpa using hl) (λi hi=>?_);rw[Ze9,Qm]at hi;rw[h i hi,Zjm (by simpa using hi),<- Zn7,<- Zn7];exact Cm
section
variable{P:Program}(w:World)
theorem Zav{o:Oper}{a:Act}{K:Act->World->Prop}{Q:Exit->Act->World->Prop}(s x:Operand)(t:TypeId)
    (ho:o.op=.call { callee:=.builtin .append,args:=#[s,x],argTypes:=#[t,t] })
    (base:Nat) (e:TypeId) (i:TypeInfo) (ht:P.underlying t=some (.slice e)) (hi:P.info? e=some i) (hz:i.zero=some (.slice none 0 0)) (hsi:i.size=1) (hby:i.bytes=24)
    (v:Value) (rs:List RS) (hs:a.eval s=v) (hown:RowS e w base v rs)
    (B:Nat) (A:Option Addr) (m c:Nat) (fs:List RS) (hx:a.eval x=.slice A m c) (hr:Reads w B 1 A m (Zaq fs)) (hm:fs.length=m)
    (h63:rs.length+m<=1000) (hbase:base<=w.heap.size)
    (h:∀ v' w',RowS e w' base v' (rs++fs)->w.grownBy w' v.ownBlock->(∀ (A:Option Addr) (n c:Nat) (l:List Nat),Lim w A n c l->Lim w' A n c l)->K (a.put o.dst v') w'):o.wp P a w K Q:=by
 obtain⟨v',w',f,h3,h4⟩:=Znj (P:=P) w base t o.type e i ht hi hz hsi hby v rs hown B A m c fs hr hm h63 hbase;unfold Oper.wp execOp;simp only[ho,resolve,invoke,builtin,Sem.run_bind,Sem.run_pure,Result.andThen_ok,QR,List.map_cons,List.map_nil,hs,hx,f];exact h v' w' h3 h4 (λ_ _ _ _ hL=>hown.keep h4 hL)
theorem Zfs{ops:Array Oper}{rest:List Oper}{o:Oper}{a:Act}{Q:Exit->Act->World->Prop}(hgd:o.guard=none)(s x:Operand)(t:TypeId)
    (ho:o.op=.call { callee:=.builtin .append,args:=#[s,x],argTypes:=#[t,t] })
    (base:Nat) (e:TypeId) (i:TypeInfo) (ht:P.underlying t=some (.slice e)) (hi:P.info? e=some i) (hz:i.zero=some (.slice none 0 0)) (hsi:i.size=1) (hby:i.bytes=24)
    (v:Value) (rs:List RS) (hs:a.eval s=v) (hown:RowS e w base v rs)
    (B:Nat) (A:Option Addr) (m c:Nat) (fs:List RS) (hx:a.eval x=.slice A m c) (hr:Reads w B 1 A m (Zaq fs)) (hm:fs.length=m)
    (h63:rs.length+m<=1000) (hbase:base<=w.heap.size)
    (h:∀ v' w',RowS e w' base v' (rs++fs)->w.grownBy w' v.ownBlock->(∀ (A:Option Addr) (n c:Nat) (l:List Nat),Lim w A n c l->Lim w' A n c l)->wpList P ops Q rest (a.put o.dst v') w'):wpList P ops Q (o::rest) a w:=
 wpList_plain hgd λ_ hK=>Zav w s x t ho base e i ht hi hz hsi hby v rs hs hown B A m c fs hx hr hm h63 hbase λv' w' h2 h3 h4=>hK _ _ (h v' w' h2 h3 h4)
end
theorem FL.reads{w:World}{A:Option Addr}{n c:Nat}{qs:List Rat}(h:FL w A n c qs):∃ fs:List FE,Reads w w.heap.size 4 A n (Zp fs)/\fs.length=n/\(∀ e ∈ fs,e.in_ w)/\fs.map FE.q=qs:=by
 obtain⟨es,h1,h2,h3,h4,h5,h6⟩:=h;refine⟨es,⟨by rw[Zs,h1],λhn=>?_⟩,h1,h4,h5⟩;obtain⟨g,o,e1,hc⟩:=h6 hn;refine⟨⟨g,o,none⟩,e1,?_,λj u hu=>?_⟩
 ·have:=(hc 0 es[0] (Qh Gk)).1
  exact Zo this
 rw[Zg]
 have hj:j<es.length*4:=by
  have:=(List.getElem?_eq_some_iff.1 hu).1
  rwa [Zs]at this
 have he:=Qh (show j/4<es.length by omega);have hg:=Zfm he;have hm:=hc (j/4) _ he;have h4:j%4=0 \/ j%4=1 \/ j%4=2 \/ j%4=3:=Gk;rcases h4 with h2|h2|h2|h2;rw[show j/4*4=j by omega]at hg hm;rw[hg.1]at hu;cases hu;exact hm.1;rw[show j/4*4+1=j by omega]at hg hm;rw[hg.2.1]at hu;cases hu;exact hm.2.1;rw[show j/4*4+2=j by omega]at hg hm;rw[hg.2.2.1]at hu;cases hu;exact hm.2.2.1;rw[show j/4*4+3=j by omega]at hg hm;rw[hg.2.2.2]at hu;cases hu;exact hm.2.2.2
theorem Zd6:(Tryz.prog.info? 41).map (λi=>(i.zero,i.size,i.bytes))=some (some (.agg #[.bool false,.slice none 0 0,.bool false,.slice none 0 0]),4,64):=by kernel_rfl
theorem Zhb:(Tryz.prog.info? 35).map (λi=>(i.zero,i.size,i.bytes))=some (some (.slice none 0 0),1,24):=by kernel_rfl
def MatO(tS tF:TypeId)(w:World)(base:Nat)(v:Value)(L:List RF):Prop:=
 RowS tS w base v (L.map RF.rs)/\(∀ r ∈ L,(FOwn tF w r.g r.q/\r.q.length<=r.c/\r.c<=maxLen)/\base<=r.g)/\(L.map RF.g).Nodup
theorem Blk.type{w:World}{g:Nat}{t t':TypeId}{cs cs':Array Value}(h:Blk w g t cs)(h':Blk w g t' cs'):t=t':=by
 unfold Blk at h h';rw[h]at h';cases h';rfl
section
variable{tS tF:TypeId}{w w':World}{base:Nat}{v v':Value}{L:List RF}
theorem MatO.nil(tS tF:TypeId)(w:World)(base:Nat):MatO tS tF w base (.slice none 0 0) []:=⟨.inl ⟨rfl,rfl⟩,λr hr=>(by cases hr),List.nodup_nil⟩
theorem MatO.kept(h:MatO tS tF w base v L)(hb:Below w.heap.size w w'):MatO tS tF w' base v L:=⟨h.1.kept hb,λr hr=>⟨⟨(h.2.1 r hr).1.1.below hb,(h.2.1 r hr).1.2⟩,(h.2.1 r hr).2⟩,h.2.2⟩
theorem RowS.ownType{rs:List RS}(h:RowS tS w base v rs){g:Nat}{cs:Array Value}(hb:Blk w g tF cs)(hne:tS≠tF):v.ownBlock≠some g:=by
 rintro e;rcases h with ⟨rfl,_⟩|⟨g',sp,rfl,_,_,h4⟩;cases e;have:g'=g:=by simpa [Value.ownBlock]using e
 subst this;exact hne (h4.type hb)
theorem FOwn.grown{g:Nat}{qs:List Rat}(h:FOwn tF w g qs)(hg:w.grownBy w' v.ownBlock)(hne:v.ownBlock≠some g)(hk:∀ (A:Option Addr) (n c:Nat) (l:List Nat),Lim w A n c l->Lim w' A n c l):FOwn tF w' g qs:=by
 obtain⟨es,zs,h1,h2,h3⟩:=h;exact⟨es,zs,(hg.block g h1.lt (λe=>hne (by first|exact e|exact e.symm))).trans h1,λe he=>(h2 e he).of_keep hk,h3⟩
theorem EN{G:Prop}(h:G:=by
 refine⟨by rw[List.map_append];exact h1,λs hs=>?_,?_⟩
 ·rcases List.mem_append.1 hs with hs|hs
  ·have:=h.2.1 s hs
   exact⟨⟨this.1.1.grown hg (ow this.1.1) hk,this.1.2⟩,this.2⟩
  rw[List.mem_singleton]at hs;subst hs;exact⟨⟨hr.1.grown hg (ow hr.1) hk,hr.2⟩,hbr⟩
 rw[List.map_append,List.nodup_append];refine⟨h.2.2,by simp,λa ha b hb=>?_⟩;obtain⟨s,hs,rfl⟩:=List.mem_map.1 ha;simp only[List.map_cons,List.map_nil,List.mem_singleton]at hb;rw[hb];exact eH s hs):G:=h
theorem MatO.snoc(h:MatO tS tF w base v L)(hne:tS≠tF){r:RF}(hr:FOwn tF w r.g r.q/\r.q.length<=r.c/\r.c<=maxLen)(hbr:base<=r.g)(eH:∀ s ∈ L,s.g≠r.g)(h1:RowS tS w' base v' (L.map RF.rs ++ [r.rs]))(hg:w.grownBy w' v.ownBlock)
    (hk:∀ (A:Option Addr) (n c:Nat) (l:List Nat),Lim w A n c l->Lim w' A n c l):MatO tS tF w' base v' (L ++ [r]):=by
 have ow:∀ {s:RF},FOwn tF w s.g s.q->v.ownBlock≠some s.g:=λhs=>by obtain⟨es,zs,q1,-,-⟩:=hs;exact h.1.ownType q1 hne
 exact EN
theorem MatO.mat(h:MatO tS tF w base v L)(hne:tS≠tF)(hl:L ≠ []):∃ go cap,v=.slice (some ⟨go,0,none⟩) L.length cap/\L.length<=cap/\cap<=maxLen/\base<=go/\MatB tS tF w go L/\∀ r ∈ L,base<=r.g:=by
 rcases h.1 with ⟨-,h2⟩|⟨go,sp,rfl,h2,h3,h4⟩;exact absurd (List.map_eq_nil_iff.1 h2) hl;refine⟨go,_,by rw[Qm],by rw[Qm];omega,h3,h2,⟨⟨_,h4⟩,λr hr=>(h.2.1 r hr).1,?_⟩,λr hr=>(h.2.1 r hr).2⟩;refine List.nodup_cons.2 ⟨λhm=>?_,h.2.2⟩;obtain⟨r,hr,e⟩:=List.mem_map.1 hm;obtain⟨es,zs,q1,-,-⟩:=(h.2.1 r hr).1.1;rw[e]at q1;exact hne (h4.type q1)
end
section
variable{tF:TypeId}{w w':World}{base:Nat}{part:List Rat}{cs:Array Value}
theorem OwnF.ownBlk{v:Value}(h:OwnF tF w base v part):∀ k,v.ownBlock=some k->∃ cs,Blk w k tF cs/\NoLimb cs/\base<=k:=λk hk=>by
 obtain⟨es,h1,h2,h3⟩:=h;rcases h1 with ⟨rfl,_⟩|⟨g',sp,rfl,h4,h5,h6⟩;cases hk;have:g'=k:=by simpa [Value.ownBlock]using hk
 subst this;exact⟨_,h6,Zcb _,h4⟩
theorem OwnF.keptG{v:Value}(h:OwnF tF w base v part){g':Nat}{t':TypeId}(hb:Blk w g' t' cs)(hn:NoLimb cs)(hne:v.ownBlock≠some g')(hk:Kept (λk=>k=g') w w'):OwnF tF w' base v part:=by
 have hG:∀ k,k=g'->∃ t cs,Blk w k t cs/\NoLimb cs:=λk hk=>⟨t',cs,hk▸hb,hn⟩;obtain⟨es,h1,h2,h3⟩:=h;refine⟨es,?_,λe he=>⟨hk.wd (h2 e he).1 hG,hk.wd (h2 e he).2 hG⟩,h3⟩;rcases h1 with h|⟨g2,sp,rfl,h4,h5,h6⟩;exact .inl h;exact .inr ⟨g2,sp,rfl,h4,h5,hk.blk h6 (λe=>hne (by rw[<- e];rfl))⟩
end
theorem RowS.mfl{tS:TypeId}{w:World}{base:Nat}{v:Value}{rs:List RS}{Q:List (List Rat)}(h:RowS tS w base v rs)(hl:rs.length=Q.length)(hF:∀ (i:Nat) (r:RS),rs[i]?=some r->FL w r.A r.n r.c (Q[i]?.getD [])):∃ A c,v=.slice A rs.length c/\MFL w A rs.length c Q:=by
 rcases h with ⟨rfl,rfl⟩|⟨g,sp,rfl,h2,h3,h4⟩;exact⟨none,0,rfl,hl.symm,Qi _,QF _,λh=>absurd h Gh⟩;refine⟨_,_,rfl,hl.symm,by omega,h3,λ_=>⟨g,0,rfl,λk q hq=>?_⟩⟩;have hk:k<rs.length:=by rw[hl];exact(List.getElem?_eq_some_iff.1 hq).1
 have he:=Qh hk;refine⟨rs[k].A,rs[k].n,rs[k].c,?_,?_⟩
 ·rw[QP,h4.cell]
  exact Zb6 (e:=rs[k]) (by rw[Qg hk];exact he)
 have:=hF k _ he;rw[hq]at this;exact this
theorem Fr.pos_iff{w:World}{na:Bool}{A:Option Addr}{n c:Nat}{nb:Bool}{B:Option Addr}{m d:Nat}{r:Rat}(h:Fr w na A n c nb B m d r):(na=false/\n≠0) ↔ 0<r:=by
 have h1:=h.1.1;have h2:=h.zero_iff;constructor
 ·rintro⟨h3,h4⟩
  rw[h3]at h1;have h5:¬ r.num<0:=by simpa using h1.symm
  have h6:r.num≠0:=λe=>h4 (h2.2 (Rat.num_eq_zero.1 e));have h7:0<=r.num:=Gk;have h8:0<=r:=Rat.num_nonneg.1 h7;have h9:(0:Rat)≠r:=λe=>h6 (by rw[<- e];rfl);exact Rat.lt_of_le_of_ne h8 h9
 intro h3;have h5:=Rat.num_nonneg.2 (Rat.le_of_lt h3);refine⟨by rw[h1];exact Gu Gk,λe=>?_⟩;have:=h2.1 e;rw[this]at h3;exact absurd h3 Gj
section
variable{P:Program}(w:World)
theorem EU{G:Prop}(h:G:=by
 have hf:=run_firstCells_some (P:=P) w i.size 0 ad 0 c [] Gh Gh;rcases ai with ⟨rfl,rfl⟩|⟨g,sp,rfl,h2,h3,h4⟩
 ·refine⟨.slice none 0 0,w,?_,.inl ⟨rfl,rfl⟩,World.grownBy.refl w _,.inl rfl⟩
  exact CI
 refine⟨_,w,?_,.inr ⟨g,sp,rfl,h2,h3,h4⟩,World.grownBy.refl w _,.inl rfl⟩;exact CK):G:=h
theorem Zlk(base:Nat)(t ty e:TypeId)(i:TypeInfo)(ht:P.underlying t=some (.slice e))(hi:P.info? e=some i)(hz:i.zero=some (.agg #[.bool false,.slice none 0 0,.bool false,.slice none 0 0]))
    (hs:i.size=4) (hby:i.bytes=64) (v:Value) (es:List FE) (ai:RowF e w base v es)
    (B:Nat) (A:Option Addr) (m c:Nat) (fs:List FE) (hr:Reads w B 4 A m (Zp fs)) (hm:fs.length=m) (h63:es.length+m<=1000) (hbase:base<=w.heap.size) :
    ∃ v' w',(Builtin.append_ #[t,t] ty #[v,.slice A m c]).run P w=.ok v' w'/\RowF e w' base v' (es++fs)/\w.grownBy w' v.ownBlock/\(v'.ownBlock=v.ownBlock \/ ∀ k,v'.ownBlock=some k->w.heap.size<=k):=by
 rcases Nat.eq_zero_or_pos m with h0|h0
 ·subst h0
  obtain rfl:fs=[]:=List.eq_nil_of_length_eq_zero hm;rw[List.append_nil];rcases A with _|ad;exact⟨v,w,Zcj w base t ty e i 4 ht hi v _ _ ai.own c,ai,World.grownBy.refl w _,.inl rfl⟩;exact EU
 obtain⟨ad,rfl,_,hc⟩:=hr.2 h0;have hl:(Zp fs).length=m*i.size:=by rw[Zs,hm,hs]
 have dY:es.length*i.size=(Zp es).length:=by rw[Zs,hs]
 rcases ai with ⟨rfl,rfl⟩|⟨g,sp,rfl,h2,h3,h4⟩
 ·have f:=run_append_nil (P:=P) w t ty e i _ ht hi hz ad m c (Zp fs) hl hc h0 Gk (by rw[hby];omega)
  have h:=grownCap_ge w m 0 e;have o:=grownCap_le_maxLen w m 0 e (by unfold maxLen;simp only[List.length_nil]at h63;omega);refine⟨_,_,f,.inr ⟨w.heap.size,grownCap w m 0 e-m,?_,hbase,?_,?_⟩,⟨rfl,rfl,rfl,by simp,λk hk _=>Below.heap_alloc w.drew _ k hk⟩,.inr (λk hk=>by first|(simp[Value.ownBlock]at hk;omega)|(cases hk;exact Qi _))⟩;rw[QU,hm,Qx h];rw[QU,hm,Qx h];exact o;exact EX
 by_cases hroom:m<=sp
 ·have f:=run_append_room (P:=P) w t ty e i ht hi g es.length (es.length+sp) _ h4 ad m c (Zp fs) hl hc (Zjs fs) Gk (by rw[dY,Zs,Zs];simp[Zx,Zs];omega)
  refine⟨_,_,f,.inr ⟨g,sp-m,?_,h2,?_,?_⟩,⟨rfl,rfl,rfl,by simp[World.setRow],λk _ hk=>setRow_other w g k _ (λe'=>hk (by simp[Value.ownBlock,e']))⟩,.inl rfl⟩;rw[Qp,hm,show es.length+m+(sp-m)=es.length+sp by omega];rw[Qp,hm];omega;exact EJ
 have y:∀ j u,(Zp es)[j]?=some u->w.cell? ((⟨g,0,none⟩:Addr).add j)=some u:=λj u hu=>by
   rw[Zg,QP,h4.cell];simp only[Zx,List.getElem?_toArray,Zao];exact Fi
 have f:=run_append_grow (P:=P) w t ty e i _ ht hi hz ⟨g,0,none⟩ es.length (es.length+sp) (Zp es) dY.symm y ad m c (Zp fs) hl hc Gk Gk (growslice_fits Gk (by rw[hby];omega));have h:=grownCap_ge w (es.length+m) (es.length+sp) e;have o:=grownCap_le_maxLen w (es.length+m) (es.length+sp) e (by unfold maxLen;omega);refine⟨_,_,f,.inr ⟨w.heap.size,grownCap w (es.length+m) (es.length+sp) e-(es.length+m),?_,hbase,?_,?_⟩,⟨rfl,rfl,rfl,by simp,λk hk _=>Below.heap_alloc w.drew _ k hk⟩,.inr (λk hk=>by first|(simp[Value.ownBlock]at hk;omega)|(cases hk;exact Qi _))⟩;rw[Qp,hm,Qx h];rw[Qp,hm,Qx h];exact o;exact Ei
theorem Zbe{o:Oper}{a:Act}{K:Act->World->Prop}{Q:Exit->Act->World->Prop}(s x:Operand)(t:TypeId)
    (ho:o.op=.call { callee:=.builtin .append,args:=#[s,x],argTypes:=#[t,t] })
    (base:Nat) (e:TypeId) (i:TypeInfo) (ht:P.underlying t=some (.slice e)) (hi:P.info? e=some i) (hz:i.zero=some (.agg #[.bool false,.slice none 0 0,.bool false,.slice none 0 0])) (hsi:i.size=4) (hby:i.bytes=64)
    (v:Value) (qs:List Rat) (hs:a.eval s=v) (hown:OwnF e w base v qs)
    (B:Nat) (A:Option Addr) (m c:Nat) (fs:List FE) (hx:a.eval x=.slice A m c) (hr:Reads w B 4 A m (Zp fs)) (hm:fs.length=m) (iA:∀ e ∈ fs,e.in_ w)
    (h63:qs.length+m<=1000) (hbase:base<=w.heap.size)
    (h:∀ v' w',OwnF e w' base v' (qs++fs.map FE.q)->w.grownBy w' v.ownBlock->(∀ (A:Option Addr) (n c:Nat) (l:List Nat),Lim w A n c l->Lim w' A n c l)->(v'.ownBlock=v.ownBlock \/ ∀ k,v'.ownBlock=some k->w.heap.size<=k)->K (a.put o.dst v') w'):o.wp P a w K Q:=by
 obtain⟨es,h1,h2,rfl⟩:=hown;rw[Qm]at h63;obtain⟨v',w',f,h3,h4,h5⟩:=Zlk (P:=P) w base t o.type e i ht hi hz hsi hby v es h1 B A m c fs hr hm h63 hbase;unfold Oper.wp execOp;simp only[ho,resolve,invoke,builtin,Sem.run_bind,Sem.run_pure,Result.andThen_ok,QR,List.map_cons,List.map_nil,hs,hx,f];have hk:∀ (A:Option Addr) (n c:Nat) (l:List Nat),Lim w A n c l->Lim w' A n c l:=λ_ _ _ _ hL=>h1.keep h4 hL;refine h v' w' ⟨es++fs,h3,λe he=>?_,by rw[List.map_append]⟩ h4 hk h5;exact IB
end
def MatA(tS tF:TypeId)(w:World)(base go:Nat)(rs:List RS)(Q:List (List Rat)):Prop:=
 (∃ zs,Blk w go tS (Z5 (rs++zs)))/\base<=go/\rs.length=Q.length/\(∀ (i:Nat) (r:RS),rs[i]?=some r->OwnF tF w base r.val (Q[i]?.getD [])) /\
  ∀ (i j:Nat) (r s:RS) (k:Nat),rs[i]?=some r->rs[j]?=some s->i≠j->r.val.ownBlock=some k->s.val.ownBlock≠some k
section
variable{tS tF:TypeId}{w w':World}{base go:Nat}{rs:List RS}{Q:List (List Rat)}
theorem MatA.below(h:MatA tS tF w base go rs Q)(hb:Below w.heap.size w w'):MatA tS tF w' base go rs Q:=by
 obtain⟨⟨zs,h1⟩,h2,h3,h4,h5⟩:=h;exact⟨⟨zs,Zc hb h1⟩,h2,h3,λi r hr=>(h4 i r hr).kept hb,h5⟩
theorem MatA.cell(h:MatA tS tF w base go rs Q){i:Nat}{r:RS}(hr:rs[i]?=some r):w.cell? ⟨go,i,none⟩=some (.slice r.A r.n r.c)/\w.frozen? ⟨go,i,none⟩=false:=by
 obtain⟨⟨zs,h1⟩,-⟩:=h;refine⟨?_,h1.frozen i⟩;rw[h1.cell];exact Zb6 (by rw[Qg (List.getElem?_eq_some_iff.1 hr).1];exact hr)
theorem OwnF.rsn{r:RS}{q:List Rat}(h:OwnF tF w base r.val q):r.n=q.length/\FL w r.A r.n r.c q:=by
 obtain⟨A,c,e,hf⟩:=h.fl;simp only[RS.val,Value.slice.injEq]at e;obtain⟨rfl,e2,rfl⟩:=e;refine⟨e2,?_⟩;rw[e2];exact hf
theorem MatA.app(h:MatA tS tF w base go rs Q)(hts:tS≠tF){i:Nat}{r r':RS}{q':List Rat}(hr:rs[i]?=some r)(hg:w.grownBy w' r.val.ownBlock)(ho:OwnF tF w' base r'.val q')(hk:∀ (A:Option Addr) (n c:Nat) (l:List Nat),Lim w A n c l->Lim w' A n c l)
    (hw:r'.val.ownBlock=r.val.ownBlock \/ ∀ k,r'.val.ownBlock=some k->w.heap.size<=k):MatA tS tF (w'.setCell ⟨go,i,none⟩ r'.val) base go (rs.set i r') (Q.set i q'):=by
 obtain⟨⟨zs,h1⟩,h2,h3,h4,h5⟩:=h;have hi:i<rs.length:=(List.getElem?_eq_some_iff.1 hr).1
 have u:∀ (v:Value) (q:List Rat),OwnF tF w base v q->v.ownBlock≠some go:=λv q hv e=>by
  obtain⟨cs,a,-,-⟩:=hv.ownBlk go e;exact hts (h1.type a)
 have b1:Blk w' go tS (Z5 (rs++zs)):=(hg.block go h1.lt (λe=>u _ _ (h4 i r hr) e.symm)).trans h1;have f:=Zba (rs++zs);have kS:Kept (λk=>k=go) w' (w'.setCell ⟨go,i,none⟩ r'.val):=Kept.set_ (G:=λk=>k=go) (Kept.refl _ _) (p:=⟨go,i,none⟩) (.inl rfl) _
 have y:r'.val.ownBlock≠some go:=λe=>by
  obtain⟨cs,a,-,-⟩:=ho.ownBlk go e;exact hts (b1.type a)
 refine⟨⟨zs,?_⟩,h2,by rw[QV,QV];exact h3,λj s hs=>?_,λj l s t k hs ht hjl hsk=>?_⟩
 ·have:=b1.set_ i r'.val
  rw[show r'.val=.slice r'.A r'.n r'.c from rfl,Zdr r']at this;rw[List.set_append_left _ _ hi]at this;exact this
 ·rw[QH]at hs
  by_cases hij:i=j
  ·subst hij
   rw[Gx rfl,Gx hi]at hs;cases hs;rw[List.getElem?_set_self Gk,Qo];exact ho.keptG b1 f y kS
  rw[Gw hij]at hs;rw[List.getElem?_set_ne hij];have o:=h4 j s hs;have ne:∀ k,s.val.ownBlock=some k->r.val.ownBlock≠some k:=λk e=>h5 j i s r k hs hr (Qw hij) e
  have o2:OwnF tF w' base s.val (Q[j]?.getD []):=by
   obtain⟨es,e1,e2,e3⟩:=o;refine⟨es,?_,λe he=>⟨⟨(e2 e he).1.1,(e2 e he).1.2.1,hk _ _ _ _ (e2 e he).1.2.2⟩,⟨(e2 e he).2.1,(e2 e he).2.2.1,hk _ _ _ _ (e2 e he).2.2.2⟩⟩,e3⟩;rcases e1 with e1|⟨g2,sp,e4,e5,e6,e7⟩;exact .inl e1;exact .inr ⟨g2,sp,e4,e5,e6,(hg.block g2 e7.lt (λe=>ne g2 (by rw[e4];rfl) e.symm)).trans e7⟩
  exact o2.keptG b1 f (u _ _ o) kS
 have fresh:∀ (j:Nat) (s:RS) (k:Nat),j≠i->rs[j]?=some s->s.val.ownBlock=some k->r'.val.ownBlock≠some k:=λj s k hji hs hsk e=>by
   obtain⟨cs,a,-,-⟩:=(h4 j s hs).ownBlk k hsk;have:=a.lt;rcases hw with hw|hw;exact h5 j i s r k hs hr hji hsk (by rw[<- hw];exact e);have:=hw k e;omega
 rw[QH]at hs ht;by_cases h6:i=j
 ·subst h6
  rw[Gx rfl,Gx hi]at hs;rw[Gw hjl]at ht;cases hs;intro e;exact fresh l t k (Qw hjl) ht e hsk
 rw[Gw h6]at hs;by_cases h7:i=l
 ·subst h7
  rw[Gx rfl,Gx hi]at ht;cases ht;exact fresh j s k (Qw h6) hs hsk
 rw[Gw h7]at ht;exact h5 j l s t k hs ht hjl hsk
end
def MatOA(tS tF:TypeId)(w:World)(base:Nat)(v:Value)(rs:List RS)(Q:List (List Rat)):Prop:=
 RowS tS w base v rs/\rs.length=Q.length/\(∀ (i:Nat) (r:RS),rs[i]?=some r->OwnF tF w base r.val (Q[i]?.getD [])) /\
  ∀ (i j:Nat) (r s:RS) (k:Nat),rs[i]?=some r->rs[j]?=some s->i≠j->r.val.ownBlock=some k->s.val.ownBlock≠some k
section
variable{tS tF:TypeId}{w w':World}{base:Nat}{v v':Value}{rs:List RS}{Q:List (List Rat)}
theorem MatOA.nil(tS tF:TypeId)(w:World)(base:Nat):MatOA tS tF w base (.slice none 0 0) [] []:=⟨.inl ⟨rfl,rfl⟩,rfl,λi r hr=>(by cases hr),λi j r s k hr=>(by cases hr)⟩
theorem MatOA.kept(h:MatOA tS tF w base v rs Q)(hb:Below w.heap.size w w'):MatOA tS tF w' base v rs Q:=⟨h.1.kept hb,h.2.1,λi r hr=>(h.2.2.1 i r hr).kept hb,h.2.2.2⟩
theorem OwnF.grownT(hts:tS≠tF){q:List Rat}{b:Nat}{u:Value}(h:OwnF tF w b u q){rs:List RS}(hv:RowS tS w base v rs)(hg:w.grownBy w' v.ownBlock)(hk:∀ (A:Option Addr) (n c:Nat) (l:List Nat),Lim w A n c l->Lim w' A n c l):OwnF tF w' b u q:=by
 obtain⟨es,e1,e2,e3⟩:=h;refine⟨es,?_,λe he=>⟨⟨(e2 e he).1.1,(e2 e he).1.2.1,hk _ _ _ _ (e2 e he).1.2.2⟩,⟨(e2 e he).2.1,(e2 e he).2.2.1,hk _ _ _ _ (e2 e he).2.2.2⟩⟩,e3⟩;rcases e1 with e1|⟨g2,sp,e4,e5,e6,e7⟩;exact .inl e1;exact .inr ⟨g2,sp,e4,e5,e6,(hg.block g2 e7.lt (λe=>hv.ownType e7 hts e.symm)).trans e7⟩
theorem OwnF.lower{b b':Nat}{u:Value}{q:List Rat}(h:OwnF tF w b u q)(hb:b'<=b):OwnF tF w b' u q:=by
 obtain⟨es,e1,e2,e3⟩:=h;refine⟨es,?_,e2,e3⟩;rcases e1 with e1|⟨g2,sp,e4,e5,e6,e7⟩;exact .inl e1;exact .inr ⟨g2,sp,e4,Qj hb e5,e6,e7⟩
theorem MatOA.snoc(h:MatOA tS tF w base v rs Q)(hts:tS≠tF){r:RS}{q:List Rat}{b:Nat}(ho:OwnF tF w b r.val q)(hb:base<=b)(hlt:∀ s ∈ rs,∀ k,s.val.ownBlock=some k->k<b)(h1:RowS tS w' base v' (rs ++ [r]))(hg:w.grownBy w' v.ownBlock)(hk:∀ (A:Option Addr) (n c:Nat) (l:List Nat),Lim w A n c l->Lim w' A n c l) :
    MatOA tS tF w' base v' (rs ++ [r]) (Q ++ [q]):=by
 obtain⟨a1,a2,a3,a4⟩:=h;refine⟨h1,by simp[a2],λi s hs=>?_,λi j s t k hs ht hij hsk=>?_⟩
 ·by_cases hi:i<rs.length
  ·rw[Qg hi]at hs
   rw[Qg Gk];exact(a3 i s hs).grownT hts a1 hg hk
  have hl:=(List.getElem?_eq_some_iff.1 hs).1;rw[Qp,QK]at hl;obtain rfl:i=rs.length:=Gk;rw[Qq (Qi _),QJ]at hs;cases hs;rw[Qq Gk,a2,QJ];exact(ho.lower hb).grownT hts a1 hg hk
 have new:∀ (x:RS) (k:Nat),x ∈ rs->x.val.ownBlock=some k->r.val.ownBlock≠some k:=λx k hx hxk e=>by
   have h2:=hlt x hx k hxk;obtain⟨cs,-,-,h3⟩:=ho.ownBlk k e;omega
 have o:=(List.getElem?_eq_some_iff.1 hs).1;have f:=(List.getElem?_eq_some_iff.1 ht).1;rw[Qp,QK]at o f;by_cases hi:i<rs.length
 ·rw[Qg hi]at hs
  by_cases hj:j<rs.length
  ·rw[Qg hj]at ht
   exact a4 i j s t k hs ht hij hsk
  obtain rfl:j=rs.length:=Gk;rw[Qq (Qi _),QJ]at ht;cases ht;exact new s k (Qr hs) hsk
 obtain rfl:i=rs.length:=Gk;rw[Qq (Qi _),QJ]at hs;cases hs;rw[Qg Gk]at ht;exact λe=>new t k (Qr ht) e hsk
end
theorem Zdc{P:Program}{ops:Array Oper}{Q:Exit->Act->World->Prop}{md:Region.Mode}{L:List Nat}{S:World->Prop}{i j:Nat}{oi oj:Oper}{fuel:Nat}{listed:Array Bool}{a:Act}{w:World}(hi:ops[i]?=some oi)(hj:ops[j]?=some oj)(hr:Region.ready md ops listed=[i,j])
    (h1:∀ K':Act->World->Prop,Shut (∀ a w,(Zcx L (listed.setIfInBounds i true)=true->S w)->Zab P md ops Q L S fuel (listed.setIfInBounds i true) a w->K' a w)->if Region.wanted oi (yielded ops a.tmps)=true then Oper.wp P oi a w K' Q else K' (a.put oi.dst undef) w)
    (h2:∀ K':Act->World->Prop,Shut (∀ a w,(Zcx L (listed.setIfInBounds j true)=true->S w)->Zab P md ops Q L S fuel (listed.setIfInBounds j true) a w->K' a w)->if Region.wanted oj (yielded ops a.tmps)=true then Oper.wp P oj a w K' Q else K' (a.put oj.dst undef) w) :
    Zab P md ops Q L S (fuel+1) listed a w:=
 ⟨(λh0=>by rw[h0]at hr;cases hr),λk hk=>by
  rw[hr]at hk;rcases List.mem_cons.1 hk with e|e;subst e;exact wpOp_step hi (λK' hK=>h1 K' (λa w hS hW=>hK a w ⟨hS,hW⟩));rw[QG]at e;subst e;exact wpOp_step hj (λK' hK=>h2 K' (λa w hS hW=>hK a w ⟨hS,hW⟩))⟩
def FacM(tS tN:TypeId)(w:World)(base:Nat)(v1 v2:Value)(rs:List RS)(Q:List (List Rat))(ds:List Rat):Prop:=
 MatOA tS tN w base v1 rs Q/\OwnF tN w base v2 ds/\∀ r ∈ rs,∀ k,r.val.ownBlock=some k->v2.ownBlock≠some k
section
variable{tS tN:TypeId}{w w':World}{base:Nat}{v v1 v1' v2 v2':Value}{rs:List RS}{Q:List (List Rat)}{ds qs:List Rat}
theorem OwnF.blt(h:OwnF tN w base v qs):∀ k,v.ownBlock=some k->k<w.heap.size:=λk hk=>by
 obtain⟨cs,hb,-,-⟩:=h.ownBlk k hk;exact hb.lt
theorem OwnF.grownO{b:Nat}(h:OwnF tN w b v qs)(hg:w.grownBy w' v2.ownBlock)(hne:∀ k,v.ownBlock=some k->v2.ownBlock≠some k)(hk:∀ (A:Option Addr) (n c:Nat) (l:List Nat),Lim w A n c l->Lim w' A n c l):OwnF tN w' b v qs:=by
 obtain⟨es,e1,e2,e3⟩:=h;refine⟨es,?_,λe he=>(e2 e he).of_keep hk,e3⟩;rcases e1 with e1|⟨g2,sp,e4,e5,e6,e7⟩;exact .inl e1;exact .inr ⟨g2,sp,e4,e5,e6,(hg.block g2 e7.lt (λe=>hne g2 (by rw[e4];rfl) (by first|exact e|exact e.symm))).trans e7⟩
theorem RowS.grownR{rs:List RS}(h:RowS tS w base v1 rs)(hO:OwnF tN w base v2 ds)(hts:tS≠tN)(hg:w.grownBy w' v2.ownBlock):RowS tS w' base v1 rs:=by
 rcases h with h|⟨g',sp,h1,h2,h3,h4⟩;exact .inl h;refine .inr ⟨g',sp,h1,h2,h3,(hg.block g' h4.lt (λe=>?_)).trans h4⟩;obtain⟨cs,a,-,-⟩:=hO.ownBlk g' (by first|exact e|exact e.symm);exact hts (h4.type a)
theorem RowS.keptG{rs:List RS}(h:RowS tS w base v1 rs){g:Nat}(hg:g<base)(hk:Kept (λk=>k=g) w w'):RowS tS w' base v1 rs:=by
 rcases h with h|⟨g',sp,h1,h2,h3,h4⟩;exact .inl h;exact .inr ⟨g',sp,h1,h2,h3,hk.blk h4 Gk⟩
theorem FacM.nil(tS tN:TypeId)(w:World)(base:Nat):FacM tS tN w base (.slice none 0 0) (.slice none 0 0) [] [] []:=⟨MatOA.nil _ _ _ _,OwnF.nil _ _ _,λr hr=>(by cases hr)⟩
theorem FacM.kept(h:FacM tS tN w base v1 v2 rs Q ds)(hb:Below w.heap.size w w'):FacM tS tN w' base v1 v2 rs Q ds:=⟨h.1.kept hb,h.2.1.kept hb,h.2.2⟩
theorem FacM.rlt(h:FacM tS tN w base v1 v2 rs Q ds):∀ s ∈ rs,∀ k,s.val.ownBlock=some k->k<w.heap.size:=λs hs k hk=>by
 obtain⟨i,hi,e⟩:=List.getElem_of_mem hs;exact(h.1.2.2.1 i s (by rw[Qh hi,e])).blt k hk
theorem FacM.snocL(h:FacM tS tN w base v1 v2 rs Q ds)(hts:tS≠tN){r:RS}{q:List Rat}{b:Nat}(ho:OwnF tN w b r.val q)(hb:base<=b)(hlt:∀ s ∈ rs,∀ k,s.val.ownBlock=some k->k<b)(hl2:∀ k,v2.ownBlock=some k->k<b)(h1:RowS tS w' base v1' (rs ++ [r]))(hg:w.grownBy w' v1.ownBlock)(hk:∀ (A:Option Addr) (n c:Nat) (l:List Nat),Lim w A n c l->Lim w' A n c l) :
    FacM tS tN w' base v1' v2 (rs ++ [r]) (Q ++ [q]) ds:=by
 refine⟨h.1.snoc hts ho hb hlt h1 hg hk,h.2.1.grownT hts h.1.1 hg hk,λs hs k hsk e=>?_⟩;rcases List.mem_append.1 hs with hs|hs;exact h.2.2 s hs k hsk e;rw[QG]at hs;subst hs;have h2:=ho.row_ge k hsk;have h3:=hl2 k e;omega
theorem FacM.snocD(h:FacM tS tN w base v1 v2 rs Q ds)(hts:tS≠tN){qs:List Rat}(hO:OwnF tN w' base v2' qs)(hg:w.grownBy w' v2.ownBlock)(hk:∀ (A:Option Addr) (n c:Nat) (l:List Nat),Lim w A n c l->Lim w' A n c l)
    (hw:v2'.ownBlock=v2.ownBlock \/ ∀ k,v2'.ownBlock=some k->w.heap.size<=k):FacM tS tN w' base v1 v2' rs Q qs:=by
 refine⟨⟨h.1.1.grownR h.2.1 hts hg,h.1.2.1,λi r hr=>(h.1.2.2.1 i r hr).grownO hg (λk hk=>h.2.2 r (Qr hr) k hk) hk,h.1.2.2.2⟩,hO,λs hs k hsk e=>?_⟩;rcases hw with hw|hw;exact h.2.2 s hs k hsk (by rw[<- hw];exact e);have h2:=hw k e;have h3:=h.rlt s hs k hsk;omega
theorem FacM.box(h:FacM tS tN w base v1 v2 rs Q ds){g:Nat}{t:TypeId}{cs:Array Value}(hb:Blk w g t cs)(hn:NoLimb cs)(hg:g<base)(hk:Kept (λk=>k=g) w w'):FacM tS tN w' base v1 v2 rs Q ds:=
 ⟨⟨h.1.1.keptG hg hk,h.1.2.1,λi r hr=>(h.1.2.2.1 i r hr).keptG hb hn (λe=>by have:=(h.1.2.2.1 i r hr).row_ge g e;omega) hk,h.1.2.2.2⟩,h.2.1.keptG hb hn (λe=>by have:=h.2.1.row_ge g e;omega) hk,h.2.2⟩
theorem MatOA.mflA(h:MatOA tS tN w base v rs Q):∃ A c,v=.slice A Q.length c/\MFL w A Q.length c Q:=by
 obtain⟨A,c,e,hM⟩:=h.1.mfl h.2.1 (λi r hr=>(h.2.2.1 i r hr).rsn.2);rw[h.2.1]at e hM;exact⟨A,c,e,hM⟩
end
theorem FL.pair2{w:World}{g:Nat}{t:TypeId}{xn:Bool}{xA:Option Addr}{xk xc:Nat}{xm:Bool}{xB:Option Addr}{xj xd:Nat}{yn:Bool}{yA:Option Addr}{yk yc:Nat}{ym:Bool}{yB:Option Addr}{yj yd:Nat}{p q:Rat}(h:Blk w g t #[.bool xn,.slice xA xk xc,.bool xm,.slice xB xj xd,.bool yn,.slice yA yk yc,.bool ym,.slice yB yj yd])(hp:Fr w xn xA xk xc xm xB xj xd p)(hq:Fr w yn yA yk yc ym yB yj yd q):FL w (some ⟨g,0,none⟩) 2 2 [p,q]:=by
 refine⟨[⟨xn,xA,xk,xc,xm,xB,xj,xd,p⟩,⟨yn,yA,yk,yc,ym,yB,yj,yd,q⟩],rfl,Qi _,by unfold maxLen;omega,λe he=>?_,rfl,λ_=>⟨g,0,rfl,λk r hr=>?_⟩⟩
 ·simp only[List.mem_cons,List.not_mem_nil,or_false]at he
  rcases he with rfl|rfl;exact hp;exact hq
 match k,hr with
 | 0,hr=>cases hr;exact⟨h.cell 0,h.cell 1,h.cell 2,h.cell 3⟩
 | 1,hr=>cases hr;exact⟨h.cell 4,h.cell 5,h.cell 6,h.cell 7⟩
 | k+2,hr=>simp at hr
theorem FL.sing1{w:World}{g:Nat}{t:TypeId}{na:Bool}{A:Option Addr}{n c:Nat}{nb:Bool}{B:Option Addr}{m d:Nat}{q:Rat}(h:Blk w g t #[.bool na,.slice A n c,.bool nb,.slice B m d])(hf:Fr w na A n c nb B m d q):FL w (some ⟨g,0,none⟩) 1 1 [q]:=by
 refine⟨[⟨na,A,n,c,nb,B,m,d,q⟩],rfl,Qi _,by unfold maxLen;omega,λe he=>?_,rfl,λ_=>⟨g,0,rfl,λk e hk=>?_⟩⟩;rw[QG]at he;subst he;exact hf;have f:k=0:=by have:=(List.getElem?_eq_some_iff.1 hk).1;simp at this;exact this
 subst f;cases hk;exact⟨h.cell 0,h.cell 1,h.cell 2,h.cell 3⟩
theorem FL.atS{w:World}{g o n c:Nat}{qs:List Rat}(h:FL w (some ⟨g,o,none⟩) n c qs){k:Nat}(hk:k<n):∃ na A1 n1 c1 nb B m d,At4 w g (o+k*4) na A1 n1 c1 nb B m d/\Fr w na A1 n1 c1 nb B m d (qs[k]?.getD 0):=by
 obtain⟨g',o',na,A1,n1,c1,nb,B,m,d,e,h1,h2⟩:=h.at_ hk;cases e;exact⟨_,_,_,_,_,_,_,_,h1,h2⟩
theorem Zlg(A:Option Addr)(n c:Nat)(B:Option Addr)(m d:Nat):NoLimb #[.slice A n c,.slice B m d]:=λi k=>by
 match i with
 | 0=>simp
 | 1=>simp
 | i+2=>simp
def EnvF(tS tN tX:TypeId)(w:World)(base bo gl gx:Nat)(v1 v2 V1 V2 own:Value)(rs:List RS)(Q:List (List Rat))(ds q:List Rat)(ln:Bool)(lA:Option Addr)(lk lc:Nat)(lm:Bool)(lB:Option Addr)(lj ld:Nat)(d:Rat):Prop:=
 FacM tS tN w base v1 v2 rs Q ds/\OwnF tN w bo own q/\Blk w gl tN #[.bool ln,.slice lA lk lc,.bool lm,.slice lB lj ld]/\Fr w ln lA lk lc lm lB lj ld d/\Blk w gx tX #[V1,V2]
def EnvG(tS tN tX:TypeId)(w:World)(base gl gx:Nat)(v1 v2 V1 V2:Value)(rs:List RS)(Q:List (List Rat))(ds:List Rat)(ln:Bool)(lA:Option Addr)(lk lc:Nat)(lm:Bool)(lB:Option Addr)(lj ld:Nat)(d:Rat):Prop:=
 FacM tS tN w base v1 v2 rs Q ds/\Blk w gl tN #[.bool ln,.slice lA lk lc,.bool lm,.slice lB lj ld]/\Fr w ln lA lk lc lm lB lj ld d/\Blk w gx tX #[V1,V2]
section
variable{tS tN tX:TypeId}{w w':World}{base bo gl gx:Nat}{v1 v1' v2 v2' V1 V2 own:Value}{rs:List RS}{Q:List (List Rat)}{ds q:List Rat}{ln:Bool}{lA:Option Addr}{lk lc:Nat}{lm:Bool}{lB:Option Addr}{lj ld:Nat}{d:Rat}
theorem EnvF.below(h:EnvF tS tN tX w base bo gl gx v1 v2 V1 V2 own rs Q ds q ln lA lk lc lm lB lj ld d)(hb:Below w.heap.size w w'):EnvF tS tN tX w' base bo gl gx v1 v2 V1 V2 own rs Q ds q ln lA lk lc lm lB lj ld d:=
 ⟨h.1.kept hb,h.2.1.kept hb,Zc hb h.2.2.1,h.2.2.2.1.below hb,Zc hb h.2.2.2.2⟩
theorem EnvG.below(h:EnvG tS tN tX w base gl gx v1 v2 V1 V2 rs Q ds ln lA lk lc lm lB lj ld d)(hb:Below w.heap.size w w'):EnvG tS tN tX w' base gl gx v1 v2 V1 V2 rs Q ds ln lA lk lc lm lB lj ld d:=
 ⟨h.1.kept hb,Zc hb h.2.1,h.2.2.1.below hb,Zc hb h.2.2.2⟩
theorem It{G:Prop}(h:G:=by
 exact⟨by rw[this.cell];rfl,by rw[this.cell];rfl⟩):G:=h
theorem EnvF.cells(h:EnvF tS tN tX w base bo gl gx v1 v2 V1 V2 own rs Q ds q ln lA lk lc lm lB lj ld d):w.cell? ⟨gx,0,none⟩=some V1/\w.cell? ⟨gx,1,none⟩=some V2:=by
 have:=h.2.2.2.2;exact It
theorem EnvG.cells(h:EnvG tS tN tX w base gl gx v1 v2 V1 V2 rs Q ds ln lA lk lc lm lB lj ld d):w.cell? ⟨gx,0,none⟩=some V1/\w.cell? ⟨gx,1,none⟩=some V2:=by
 have:=h.2.2.2;exact It
theorem EnvF.left(h:EnvF tS tN tX w base bo gl gx v1 v2 V1 V2 own rs Q ds q ln lA lk lc lm lB lj ld d):w.cell? ⟨gl,0,none⟩=some (.bool ln)/\w.cell? ⟨gl,1,none⟩=some (.slice lA lk lc)/\w.cell? ⟨gl,2,none⟩=some (.bool lm)/\w.cell? ⟨gl,3,none⟩=some (.slice lB lj ld):=by
 obtain⟨a,b,c,d,-⟩:=h.2.2.1.four;exact⟨a,b,c,d⟩
theorem EnvG.left(h:EnvG tS tN tX w base gl gx v1 v2 V1 V2 rs Q ds ln lA lk lc lm lB lj ld d):w.cell? ⟨gl,0,none⟩=some (.bool ln)/\w.cell? ⟨gl,1,none⟩=some (.slice lA lk lc)/\w.cell? ⟨gl,2,none⟩=some (.bool lm)/\w.cell? ⟨gl,3,none⟩=some (.slice lB lj ld):=by
 obtain⟨a,b,c,d,-⟩:=h.2.1.four;exact⟨a,b,c,d⟩
theorem EnvF.far{t:TypeId}{g:Nat}{cs:Array Value}(h:EnvF tS tN tX w base bo gl gx v1 v2 V1 V2 own rs Q ds q ln lA lk lc lm lB lj ld d)(hts:tS≠t)(hg:w.grownBy w' v1.ownBlock)(hb:Blk w g t cs):Blk w' g t cs:=
 (hg.block g hb.lt (λe=>h.1.1.1.ownType hb hts (by first|exact e|exact e.symm))).trans hb
theorem EnvF.app(h:EnvF tS tN tX w base bo gl gx v1 v2 V1 V2 own rs Q ds q ln lA lk lc lm lB lj ld d)(hts:tS≠tN){r:RS}(hr:r.val=own)(hbb:base<=bo)(hlt:∀ s ∈ rs,∀ k,s.val.ownBlock=some k->k<bo)(hl2:∀ k,v2.ownBlock=some k->k<bo)(hgx:gx<base)(h1:RowS tS w' base v1' (rs ++ [r]))(hg:w.grownBy w' v1.ownBlock)(hk:∀ (A:Option Addr) (n c:Nat) (l:List Nat),Lim w A n c l->Lim w' A n c l) :
    EnvG tS tN tX w' base gl gx v1' v2 V1 V2 (rs ++ [r]) (Q ++ [q]) ds ln lA lk lc lm lB lj ld d:=by
 refine⟨h.1.snocL hts (hr▸h.2.1) hbb hlt hl2 h1 hg hk,h.far hts hg h.2.2.1,⟨⟨h.2.2.2.1.1.1,h.2.2.2.1.1.2.1,hk _ _ _ _ h.2.2.2.1.1.2.2⟩,⟨h.2.2.2.1.2.1,h.2.2.2.1.2.2.1,hk _ _ _ _ h.2.2.2.1.2.2.2⟩⟩,?_⟩;exact(hg.block gx h.2.2.2.2.lt (λe=>by have:=h.1.1.1.row_ge gx (by first|exact e|exact e.symm);omega)).trans h.2.2.2.2
theorem EnvG.app(h:EnvG tS tN tX w base gl gx v1 v2 V1 V2 rs Q ds ln lA lk lc lm lB lj ld d)(hts:tS≠tN)(hgx:gx<base){qs:List Rat}(hO:OwnF tN w' base v2' qs)(hg:w.grownBy w' v2.ownBlock)(hk:∀ (A:Option Addr) (n c:Nat) (l:List Nat),Lim w A n c l->Lim w' A n c l)
    (hw:v2'.ownBlock=v2.ownBlock \/ ∀ k,v2'.ownBlock=some k->w.heap.size<=k):FacM tS tN w' base v1 v2' rs Q qs/\Blk w' gx tX #[V1,V2]:=
 ⟨h.1.snocD hts hO hg hk hw,(hg.block gx h.2.2.2.lt (λe=>by have:=h.1.2.1.row_ge gx (by first|exact e|exact e.symm);omega)).trans h.2.2.2⟩
theorem Kept.grownC{G:Nat->Prop}{W0:World}{row:Option Nat}(h:Kept G W0 w)(hg:w.grownBy w' row)(hr:∀ k,row=some k->W0.heap.size<=k):Kept G W0 w':=
 ⟨hg.os.trans h.os,hg.tape.trans h.tape,hg.output.trans h.output,Qj h.size hg.size,λk hk hG=>(hg.block k (Qt hk h.size) (λe=>by have:=hr k (by first|exact e|exact e.symm);omega)).trans (h.block k hk hG)⟩
end
