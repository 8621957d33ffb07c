/- For the laws of linear without the reference: square, -/
import Derived.Test.YtigdclhagmnopaaGreatZo48
set_option maxRecDepth 100000
set_option maxHeartbeats 16000000
set_option linter.unusedSimpArgs false
set_option linter.unusedVariables false
namespace Go.Proofs.YtigdclhagmnopaaGreat
open Go.RowKit
attribute [local go_sem] Zh
theorem df_fr {w : World} {q : Rat} {A : Option Addr} {n c : Nat} {B : Option Addr} {m d : Nat} (h1 : Lim w A n c (dfQ q).la) (h2 : Lim w B m d (dfQ q).lb) (hs : q.num.natAbs < pw 4096 /\ q.den < pw 4096) : Fr w (dfQ q).na A n c (dfQ q).nb B m d q:=by
 have a1:=(Zo _ 4096).2 hs.1;have a2:=(Zo _ 4096).2 hs.2;have l1:=h1.len;have l2:=h2.len;have e1 : (dfQ q).la = digits q.num.natAbs:=rfl;have e2 : (dfQ q).lb = digits q.den:=rfl;rw [e1] at h1 l1;rw [e2] at h2 l2;refine ⟨⟨rfl,by omega,h1⟩,⟨?_,by omega,by rw [Int.natAbs_natCast];exact h2⟩⟩;show false = decide _
 symm
 exact decide_eq_false (by omega)
theorem XL.fl {w : World} {A : Option Addr} {n c : Nat} {qs : List Rat} (h : XL w A n c (qs.map dfQ)) (hs : ∀ q ∈ qs,q.num.natAbs < pw 4096 /\ q.den < pw 4096) : FL w A n c qs:=by
 obtain ⟨h1,h2,h3,h4⟩:=h;rw [List.length_map] at h1
 rcases Nat.eq_zero_or_pos n with h0 | h0
 ·subst h0
  obtain rfl : qs = []:=List.eq_nil_of_length_eq_zero h1;exact ⟨[],rfl,h2,h3,fun e he=>(by cases he),rfl,fun hn=>absurd hn (Nat.lt_irrefl _)⟩
 ·obtain ⟨g,o,A0,n0,c0,B0,m0,d0,rfl,-⟩:=h4 0 _ (List.getElem?_eq_getElem (by rw [List.length_map];omega))
  obtain ⟨fs,f1,f2⟩:=Zj9 (fun k (e : FE)=>At4 w g (o + k * 4) e.na e.A e.n e.c e.nb e.B e.m e.d /\ Fr w e.na e.A e.n e.c e.nb e.B e.m e.d e.q /\ qs[k]? = some e.q) n (fun k hk=>by
   have hq:=List.getElem?_eq_getElem (l:=qs) (i:=k) (by omega);obtain ⟨g',o',A1,n1,c1,B1,m1,d1,e1,h5,h6,h7⟩:=h4 k (dfQ qs[k]) (by rw [List.getElem?_map,hq];rfl)
   cases e1
   exact ⟨⟨_,A1,n1,c1,_,B1,m1,d1,qs[k]⟩,h5,df_fr h6 h7 (hs _ (List.getElem_mem _)),hq⟩)
  refine ⟨fs,f1,h2,h3,fun e he=>?_,?_,fun _=>⟨g,o,rfl,fun k e he=>(f2 k e he).1⟩⟩
  ·obtain ⟨k,hk,rfl⟩:=List.getElem_of_mem he
   exact (f2 k _ (List.getElem?_eq_getElem hk)).2.1
  ·apply List.ext_getElem?
   intro k;rw [List.getElem?_map]
   by_cases hk : k < n
   ·have hf:=List.getElem?_eq_getElem (l:=fs) (i:=k) (by omega)
    rw [hf,(f2 k _ hf).2.2];rfl
   ·rw [List.getElem?_eq_none (l:=fs) (by omega),List.getElem?_eq_none (l:=qs) (by omega)];rfl
theorem XM.mfl {w : World} {A : Option Addr} {n c : Nat} {Q : List (List Rat)} (h : XM w A n c (Q.map fun r=>r.map dfQ)) (hs : ∀ r ∈ Q,∀ q ∈ r,q.num.natAbs < pw 4096 /\ q.den < pw 4096) : MFL w A n c Q:=by
 obtain ⟨h1,h2,h3,h4⟩:=h;rw [List.length_map] at h1;refine ⟨h1,h2,h3,fun hn=>?_⟩;obtain ⟨g,o,A0,n0,c0,rfl,-⟩:=h4 0 _ (List.getElem?_eq_getElem (by rw [List.length_map];omega));refine ⟨g,o,rfl,fun k r hr=>?_⟩;obtain ⟨g',o',A1,n1,c1,e1,h5,h6⟩:=h4 k (r.map dfQ) (by rw [List.getElem?_map,hr];rfl)
 cases e1
 exact ⟨A1,n1,c1,h5,h6.fl (hs r (List.mem_of_getElem? hr))⟩
theorem MXL.one {w : World} {g : Nat} {t : TypeId} {B : Option Addr} {n c : Nat} {es : List FX} (h : Blk w g t #[.slice B n c]) (hb : FXL w B n c es) : MXL w (some ⟨g,0,none⟩) 1 1 [⟨B,n,c,es⟩]:=
 ⟨rfl,Nat.le_refl _,by unfold maxLen;omega,fun r hr=>by
  rw [List.mem_singleton] at hr;subst hr;exact hb,fun _=>⟨_,0,rfl,fun k r hk=>by
  have hk0 : k = 0:=by have:=(List.getElem?_eq_some_iff.1 hk).1;simp at this;exact this
  subst hk0
  cases hk
  have:=h.cell 0
  simpa using this⟩⟩
theorem Zvx {B : Option Addr} {n c : Nat} {es : List FX} (h : Zd1 [⟨B,n,c,es⟩] = 0) : Zbs es = true:=((Zbm h).2.2.2.2 _ (List.mem_singleton.2 rfl)).2
theorem Znj {u v : Nat} {f : Nat -> Rat} (h : ∀ j,SmN u v (f j)) : ∀ t,SmN (u + 1 + t * (v + 1)) (1 + t * v) (sumQ t f)
 | 0=>⟨Zbl _,by simp only [sumQ];rw [Nat.zero_mul];exact Zdn⟩
 | t + 1=>by
  have h1:=SmN.add (Znj h t) (h t);simp only [sumQ];refine h1.mono ?_ ?_
  ·have e1 : (t + 1) * (v + 1) = t * (v + 1) + (v + 1):=Nat.succ_mul _ _
   have e2 : t * (v + 1) = t * v + t:=Nat.mul_succ _ _;omega
  ·have : (t + 1) * v = t * v + v:=Nat.succ_mul _ _
   omega
theorem Zu1 {P Q : List (List Rat)} {p u v : Nat} (hP : ∀ i j,SmN u u (Zm P i j)) (hQ : ∀ i j,SmN v v (Zm Q i j)) (hp : p <= 5) (huv : u + v <= 100) : ProdP P Q p:=by
 have hPQ : ∀ i j k,SmN (u + v) (u + v) (Zm P i j * Zm Q j k):=fun i j k=>(hP i j).mulN (hQ j k)
 refine ⟨fun i j=>(hP i j).sm (by omega) (by omega),fun i j=>(hQ i j).sm (by omega) (by omega),fun i j k=>(hPQ i j k).sm (by omega) (by omega),fun i k t ht=>?_⟩;have h1 : t * (u + v + 1) <= 5 * 101:=Nat.mul_le_mul (by omega) (by omega);have h2 : t * (u + v) <= 5 * 100:=Nat.mul_le_mul (by omega) (by omega);exact (Znj (fun j=>hPQ i j k) t).sm (by omega) (by omega)
theorem SmE.smN {k : Nat} {Q : List (List Rat)} (h : SmE k Q) (i j : Nat) : SmN (k + 1) (k + 1) (Zm Q i j):=⟨Nat.lt_of_le_of_lt (h i j).1 (Zb6 (by omega)),Nat.lt_of_le_of_lt (h i j).2 (Zb6 (by omega))⟩
theorem Zu7 {Q : List (List Rat)} {n : Nat} (h : SmallQ Q n) : Zia Q n <= n /\ (Zia Q n = n ↔ Zac n (Zm Q) ≠ 0) /\ okZ (pw 200) n n 0 0 (Zn Q) 1 /\ Zd4 Q n n:=by
 obtain ⟨h1,h2,h3,h4,h5⟩:=h;have b1 : (2 * n + 2 + 1) * n <= 13 * 5:=Nat.mul_le_mul (by omega) (by omega);obtain ⟨o1,o2,o3,o4,o5,o6,o7⟩:=h5.solve h3 (m:=n) (by omega) h4 (Nat.le_refl n) (by omega) (by decide) (by omega);have e : Zia Q n = (Zaa n 0 0 Q false).2.1:=o4;refine ⟨by rw [e];exact o5,⟨fun hr=>?_,fun hd=>?_⟩,o1,o3⟩
 ·rw [e] at hr
  exact (o7 hr).1
 ·rw [e]
  refine Classical.byContradiction fun hn=>hd (o6 (by omega))
theorem Zmg (A : Option Addr) (n c : Nat) (rs : List RX) (w : World) (h : MXL w A n c rs) :
    Calls Tryz.prog 33 #[.slice A n c] w fun e w'=>∃ b,e = .returned (.bool b) /\ Below w.heap.size w w' /\ (b = true -> calmT rs /\ sqE rs = 0 /\ n <= 4):=by
 have hcm:=h.2.2.1;have hnc:=h.2.1;unfold maxLen at hcm;replace h:=Za h;go_enter Tryz.func33,Tryz.ntmps33;go_wp2_with fail;refine (Zjs A n c rs w h.out).mono ?_;rintro e w1 ⟨b1,rfl,hb1,hc1⟩
 cases b1 with
 | true =>
  clear hc1;go_wp2_with fail;go_ret;exact ⟨false,rfl,hb1,fun h=>(by cases h)⟩
 | false =>
  replace hc1:=Za (hc1 rfl);obtain ⟨E,hE⟩ : ∃ E,Zd1 rs = E:=⟨_,rfl⟩;replace hE:=Za hE;have hM1:=Za (h.out.below hb1);go_wp2_with fail;refine (Zj1 A n c rs w1 hM1.out E hE.out).mono ?_;rintro e w2 ⟨rfl,hb2⟩;have hB2:=hb1.trans (hb2.mono hb1.size)
  by_cases hE0 : E = 0
  ·subst hE0
   obtain ⟨f1,f2,f3,f4,f5⟩:=Zbm hE.out;have hl:=h.out.1
   have hn0 : 0 < n:=by
    rcases Nat.eq_zero_or_pos n with h0 | h0
    ·exfalso
     have : rs = []:=List.eq_nil_of_length_eq_zero (by omega);subst this
     simp [n0R] at f3
    ·exact h0
   obtain ⟨g,o,r0,rfl,hr0,k0,-⟩:=(h.out.below hB2).at_ hn0
   have hr0n : r0.n = n0R rs:=by unfold n0R;rw [hr0];rfl
   obtain ⟨q,hq⟩ : ∃ q,n0R rs = q:=⟨_,rfl⟩;rw [hq] at hr0n;rw [hr0n,Nat.add_zero] at k0
   have b0 : (0 : Int) < (n : Int):=by omega
   have hfin : n = q -> sqE rs = 0:=fun e=>by
    unfold sqE;rw [if_pos hE.out,if_pos (by rw [hq,hl];exact e)]
   replace hfin:=Za hfin;clear f1 f2 f3 f4 f5 hr0 hq
   by_cases hnq : n = q
   ·subst hnq
    have t1 : ((n : Int) == (n : Int)) = true:=by simp
    by_cases hn4 : n <= 4
    ·have t2 : decide ((n : Int) <= 4) = true:=decide_eq_true (by omega)
     replace hn4:=Za hn4;go_wp2_with fail;go_ret;exact ⟨true,rfl,hB2,fun _=>⟨hc1.out,hfin.out trivial,hn4.out⟩⟩
    ·have t2 : decide ((n : Int) <= 4) = false:=decide_eq_false (by omega)
     replace hn4:=Za hn4;go_wp2_with fail;go_ret;exact ⟨false,rfl,hB2,fun h=>(by cases h)⟩
   ·have t1 : ((n : Int) == (q : Int)) = false:=by simp;omega
    have t1' : decide ((n : Int) = (q : Int)) = false:=decide_eq_false (by omega);replace hnq:=Za hnq;go_wp2_with fail;go_ret;exact ⟨false,rfl,hB2,fun h=>(by cases h)⟩
  ·have t1 : (E == 0) = false:=by simpa using hE0
   have t1' : decide (E = 0) = false:=decide_eq_false hE0;replace hE0:=Za hE0;go_wp2_with fail;go_ret;exact ⟨false,rfl,hB2,fun h=>(by cases h)⟩
theorem b40_out {least x : Int} (h : Zn2 least x = false) (h0 : -1099511627776 <= least) : B40 x:=by
 unfold Zn2 at h;simp only [Bool.or_eq_false_iff,decide_eq_false_iff_not] at h;unfold B40;omega
theorem Zl1 {least : Int} {l : List Int} (h : Zhg least l = false) (h0 : -1099511627776 <= least) (i : Nat) : B40 (l[i]?.getD 0):=by
 unfold Zhg at h;rw [List.any_eq_false] at h
 by_cases hi : i < l.length
 ·rw [List.getElem?_eq_getElem hi]
  exact b40_out (by simpa using h _ (List.getElem_mem hi)) h0
 ·rw [List.getElem?_eq_none (by omega)]
  show (0 : Int).natAbs <= _
  decide
theorem Zsa {rs : List RI} {rr ws : List Int} (h : Zei rs rr ws = 0) : (∀ r k,B40 (Zat rs k r)) /\ (∀ r,B40 (Zao rr r)) /\ ∀ r,B40 (Zao ws r):=by
 obtain ⟨f1,f2,f3,f4,f5,f6,f7,f8⟩:=Zfh h;refine ⟨fun r k=>?_,fun r=>Zl1 f7 (by decide) r,fun r=>Zl1 f6 (by decide) r⟩;unfold Zat
 by_cases hr : r < rs.length
 ·rw [List.getElem?_eq_getElem hr]
  exact Zl1 (f8 _ (List.getElem_mem hr)).2 (by decide) k
 ·rw [List.getElem?_eq_none (l:=rs) (i:=r) (by omega)]
  show (0 : Int).natAbs <= _
  decide
def Zos (rs : List RI) (ws : List Int) (n : Nat) : Nat -> Nat -> Rat:=fun i j=>((Zbg ws (Zat rs i) (Zat rs j) n : Int) : Rat)
section
variable {rs : List RI} {rr ws : List Int} {n m : Nat}
theorem Zfr {i j : Nat} (hi : i < m) : Zm (Zbn rs rr ws n m) i j = if j < m then Zos rs ws n i j else if j = m then ((Zbg ws (Zat rs i) (Zao rr) n : Int) : Rat) else 0:=by
 unfold Zm Zbn;rw [List.getElem?_map,List.getElem?_range hi,Option.map_some,Option.getD_some]
 by_cases hj : j < m
 ·rw [if_pos hj,Zpb hj];rfl
 ·rw [if_neg hj]
  by_cases hjm : j = m
  ·subst hjm;rw [if_pos rfl,Zng];rfl
  ·rw [if_neg hjm,List.getElem?_eq_none (by rw [Ze2];omega)];rfl
theorem Znd : (Zbn rs rr ws n m).length = m:=by unfold Zbn;simp
theorem Zto {i : Nat} (hi : i < m) : ((Zbn rs rr ws n m)[i]?.getD []).length = m + 1:=by
 unfold Zbn;rw [List.getElem?_map,List.getElem?_range hi,Option.map_some,Option.getD_some,Ze2]
theorem Zt9 (hn : n <= 200) (hE : Zei rs rr ws = 0) (i j : Nat) : BndQ (pw 4) (Zm (Zbn rs rr ws n m) i j):=by
 obtain ⟨b1,b2,b3⟩:=Zsa hE
 by_cases hi : i < m
 ·rw [Zfr hi]
  by_cases hj : j < m
  ·rw [if_pos hj];exact ⟨_,rfl,Zgb hn fun r _=>⟨b3 r,b1 r i,b1 r j⟩⟩
  ·rw [if_neg hj]
   by_cases hjm : j = m
   ·rw [if_pos hjm];exact ⟨_,rfl,Zgb hn fun r _=>⟨b3 r,b1 r i,b2 r⟩⟩
   ·rw [if_neg hjm];exact BndQ.zero
 ·unfold Zm
  rw [List.getElem?_eq_none (l:=Zbn rs rr ws n m) (by rw [Znd];omega)];exact BndQ.zero
theorem BndQ.den {B : Nat} {q : Rat} (h : BndQ B q) : q.den = 1:=by
 obtain ⟨z,rfl,-⟩:=h;exact Rat.den_intCast z
theorem BndQ.num {B : Nat} {q : Rat} (h : BndQ B q) : q.num.natAbs <= B:=by
 obtain ⟨z,rfl,hz⟩:=h;rw [Rat.num_intCast];exact hz
end
theorem Zou {B : Nat} {R : List (List Rat)} (h : ∀ i j,BndQ B (Zm R i j)) (i k : Nat) : denTo (R[i]?.getD []) k = 1:=by
 have h1:=Zp9 (R[i]?.getD []) (D:=1) (fun j=>by
  have:=(h i j).den;unfold Zm at this
  rw [this];exact Nat.le_refl _) k
 have h2:=Zds (R[i]?.getD []) k;rw [Nat.one_pow] at h1;omega
theorem Ztd {B : Nat} {R : List (List Rat)} (h : ∀ i j,BndQ B (Zm R i j)) (i j : Nat) : (Z7 (Zn R) i j).natAbs <= B:=by
 have h1:=Zfo R i j;obtain ⟨z,hz,hb⟩:=h i j;have hd : denAt R i = 1:=Zou h i _;rw [hd,hz] at h1
 have h2 : ((Z7 (Zn R) i j : Int) : Rat) = (z : Rat):=by
  rw [h1];have : ((1 : Nat) : Rat) = 1:=rfl;rw [this];grind
 rw [Rat.intCast_inj.1 h2];exact hb
theorem Znz {b n m : Nat} {R : List (List Rat)} (h : ∀ i j,BndQ (pw b) (Zm R i j)) (hl : R.length = n) (hn : n <= 900) (hrow : ∀ i,i < n -> (R[i]?.getD []).length = m) (hnm : n <= m) (h1 : (b + 1) * n < 189) (hb : b < 900) :
    okZ (pw 200) m n 0 0 (Zn R) 1 /\ okR (pw 200) (pw 200) m n 0 0 R /\ Zd4 R n m /\ (Z0 n 0 0 (Zn R) false 1).2.1 = (Zaa n 0 0 R false).2.1 /\ (Zaa n 0 0 R false).2.1 <= n /\
    ((Zaa n 0 0 R false).2.1 < n -> Zac n (Zm R) = 0) /\
    ((Zaa n 0 0 R false).2.1 = n -> Zac n (Zm R) ≠ 0 /\ ∃ X : Nat -> Nat -> Rat,Zeg (Zm (Zaa n 0 0 R false).1) X n m /\ Zeg (fun i j=>(Z7 (Z0 n 0 0 (Zn R) false 1).1 i j : Rat)) X n m /\ SolQ (Zm R) X n m):=by
 have hbd:=Zgy (b:=b) n hn;obtain ⟨B,hB⟩ : ∃ B,Zax (pw b) n = B:=⟨_,rfl⟩;rw [hB] at hbd;obtain ⟨d,hd⟩ : ∃ d,(b + 1) * n = d:=⟨_,rfl⟩;rw [hd] at hbd h1;have bb : B * B <= pw (d + d):=Zd8 hbd hbd
 have g1 : (n + 1) * (B * B) < pw 400:=by
  have h6 : (n + 1) * (B * B) <= pw (1 + (d + d)):=Zd8 (k_pw (by omega)) bb;exact Nat.lt_of_le_of_lt h6 (Zb6 (by omega))
 have g2 : B * B * 1 < pw 400:=by rw [Nat.mul_one];exact Nat.lt_of_le_of_lt bb (Zb6 (by omega))
 have g3 : B * 1 < pw 300:=by rw [Nat.mul_one];exact Nat.lt_of_le_of_lt hbd (Zb6 (by omega))
 have hs:=Zll (B:=pw b) (S:=1) (Zbl _) (Nat.le_refl _) R hl hrow (fun i hi=>Nat.le_of_eq (Zou h i _)) (fun i j _=>Ztd h i j) hnm (by rw [hB];exact g1) (by rw [hB];exact g2) (by rw [hB];exact g3);rw [hB,Nat.mul_one] at hs;obtain ⟨o1,o2,o3,o4,o5,o6⟩:=hs;have p1 : B + 1 <= pw 200:=Nat.le_trans (Nat.add_le_add hbd (Zbl d)) (Nat.le_trans (Zjc d) (Zbf (by omega)));have p2 : B < pw 200:=p1;refine ⟨Zgh p2 _ _ _ _ _ o1,Zgq p2 p2 _ _ _ _ o2,⟨fun i t hi ht=>?_,fun i j=>?_⟩,o3,o4,o5,fun hr=>?_⟩
 ·rw [Zou h];exact Nat.lt_of_lt_of_le Zdn (Zbf (by decide))
 ·exact Nat.lt_of_le_of_lt (h i j).num (Zb6 (by omega))
 ·obtain ⟨q1,X,q2,q3,q4,-⟩:=o6 hr
  exact ⟨q1,X,q2,q3,q4⟩
section
variable {rs : List RI} {rr ws : List Int} {n m : Nat}
theorem Zun (hn : n <= 200) (hm : m <= 12) (hE : Zei rs rr ws = 0) : ∃ (full : Bool) (X : Nat -> Nat -> Rat),
    okZ (pw 200) (m + 1) m 0 0 (Zn (Zbn rs rr ws n m)) 1 /\ okR (pw 200) (pw 200) (m + 1) m 0 0 (Zbn rs rr ws n m) /\ Zd4 (Zbn rs rr ws n m) m (m + 1) /\
    (Z0 m 0 0 (Zn (Zbn rs rr ws n m)) false 1).2.1 = (Zaa m 0 0 (Zbn rs rr ws n m) false).2.1 /\ (Zaa m 0 0 (Zbn rs rr ws n m) false).2.1 <= m /\
    full = decide ((Zaa m 0 0 (Zbn rs rr ws n m) false).2.1 = m) /\
    (full = true ↔ Zac m (Zos rs ws n) ≠ 0) /\
    (full = true -> Zeg (Zm (Zaa m 0 0 (Zbn rs rr ws n m) false).1) X m (m + 1) /\ Zeg (fun i j=>(Z7 (Z0 m 0 0 (Zn (Zbn rs rr ws n m)) false 1).1 i j : Rat)) X m (m + 1) /\
     Zmu rs rr ws (fun j=>X j m) n m /\ Zov rs rr ws (fun j=>X j m) n m /\ ∃ D,0 < D /\ D <= pw (5 * m) /\ ∀ k,k < m -> CD D (pw (5 * m)) (X k m)):=by
 obtain ⟨b1,b2,b3⟩:=Zsa hE;obtain ⟨o1,o2,o3,o4,o5,o6,o7⟩:=Znz (b:=4) (n:=m) (m:=m + 1) (R:=Zbn rs rr ws n m) (fun i j=>Zt9 hn hE i j) Znd (by omega) (fun i hi=>Zto hi) (by omega) (by omega) (by omega)
 have hdet : Zac m (Zm (Zbn rs rr ws n m)) = Zac m (Zos rs ws n):=Zaw fun i j hi hj=>by rw [Zfr hi,if_pos hj]
 by_cases hr : (Zaa m 0 0 (Zbn rs rr ws n m) false).2.1 = m
 ·obtain ⟨x1,X,x2,x3,x4⟩:=o7 hr
  have hN : Zmu rs rr ws (fun j=>X j m) n m:=fun i hi=>by
   have h6:=x4 i m hi (Nat.le_refl _) (by omega);rw [Zfr hi,if_neg (Nat.lt_irrefl _),if_pos rfl] at h6;rw [<- h6]
   exact Zx fun j hj=>by rw [Zfr hi,if_pos hj];rfl
  obtain ⟨D,d1,d2,d3⟩:=Zu6 (B:=pw 4) (n:=m) (Q:=Zos rs ws n) (x:=fun j=>X j m) (y:=fun i=>((Zbg ws (Zat rs i) (Zao rr) n : Int) : Rat))
   (fun a b ha hb=>⟨_,rfl,Zgb hn fun r _=>⟨b3 r,b1 r a,b1 r b⟩⟩) (fun a ha=>⟨_,rfl,Zgb hn fun r _=>⟨b3 r,b1 r a,b2 r⟩⟩) hN (by rw [<- hdet];exact x1)
  have hbd:=Zgy (b:=4) m (by omega);have d4 : D <= pw (5 * m):=Nat.le_trans d2 hbd
  have d5 : ∀ k,k < m -> CD D (pw (5 * m)) (X k m):=fun k hk=>(d3 k hk).mono hbd
  refine ⟨true,X,o1,o2,o3,o4,o5,(decide_eq_true hr).symm,⟨fun _=>by rw [<- hdet];exact x1,fun _=>rfl⟩,fun _=>⟨x2,x3,hN,?_,D,d1,d4,d5⟩⟩;exact Zuf hn (by omega) d1 d4 (Nat.le_refl _) (by omega) d5 (fun r k _ _=>b1 r k) (fun r _=>b2 r) (fun r _=>b3 r)
 ·have hr' : (Zaa m 0 0 (Zbn rs rr ws n m) false).2.1 < m:=by omega
  exact ⟨false,fun _ _=>0,o1,o2,o3,o4,o5,(decide_eq_false hr).symm,⟨fun h=>(by cases h),fun h=>absurd (by rw [<- hdet];exact o6 hr') h⟩,fun h=>(by cases h)⟩
end
def LeastD (w : World) (ds : List DF) (d : DF) (E : Int) (e : Ending) (w' : World) : Prop:=
 ∃ A0 n0 c0 A n c B m d1,e = .returned (.tuple #[.slice A0 n0 c0,.agg #[.bool d.na,.slice A n c,.bool d.nb,.slice B m d1],.int .i64 E]) /\ Below w.heap.size w w' /\ XL w' A0 n0 c0 ds /\ Lim w' A n c d.la /\ Lim w' B m d1 d.lb
theorem LeastD.of_bad {w w' : World} {e : Ending} {E : Int} (h : e = .returned (.tuple #[.slice none 0 0,.agg #[.bool false,.slice none 0 0,.bool false,.slice none 0 0],.int .i64 E]) /\ Below w.heap.size w w') : LeastD w [] dfZ E e w':=
 ⟨_,_,_,_,_,_,_,_,_,h.1,h.2,XL.nil _,Lim.nil _ _ _ (Nat.zero_le _),Lim.nil _ _ _ (Nat.zero_le _)⟩
theorem LeastD.of_full {full : Bool} {xs : List Rat} {q : Rat} {w w' : World} {e : Ending} (hf : full = true) (h : Zqt full xs q w e w') : LeastD w (xs.map dfQ) (dfQ q) 0 e w':=by
 rcases h with ⟨h1,-⟩ | ⟨-,A0,n0,c0,na,A,n,c,nb,B,m,d,e1,hb,hO,hfr⟩
 ·rw [hf] at h1;cases h1
 ·have hx:=hO.xl
  have h1:=hfr.1.1;have h2:=hfr.2.1;have h3:=hfr.2.2.2;rw [Int.natAbs_natCast] at h3
  have h4 : nb = false:=by rw [h2];exact decide_eq_false (by omega)
  subst h1 h4;exact ⟨_,_,_,_,_,_,_,_,_,e1,hb,hx,hfr.1.2.2,h3⟩
theorem LeastD.of_short {full : Bool} {xs : List Rat} {q : Rat} {w w' : World} {e : Ending} (hf : full = false) (h : Zqt full xs q w e w') : LeastD w [] dfZ 22 e w':=by
 rcases h with ⟨-,h1⟩ | ⟨h1,-⟩
 ·exact LeastD.of_bad h1
 ·rw [hf] at h1;cases h1
theorem Znt {w : World} {A : Option Addr} {n c : Nat} {rs : List RI} {rr ws : List Int} (h : MIL w A n c rs) (hE : Zei rs rr ws = 0) : 0 < n /\ n <= 200 /\ 0 < n0I rs /\ n0I rs <= 12 /\ rr.length = n /\ ws.length = n /\ ∀ r ∈ rs,r.n = n0I rs:=by
 obtain ⟨f1,f2,f3,f4,f5,f6,f7,f8⟩:=Zfh hE;have hl:=h.1
 have hn0 : 0 < n:=by
  rcases Nat.eq_zero_or_pos n with h0 | h0
  ·exfalso
   have : rs = []:=List.eq_nil_of_length_eq_zero (by omega);subst this;exact f3 rfl
  ·exact h0
 have hm12 : n0I rs <= 12:=by
  obtain ⟨_,_,r0,_,hr0,_⟩:=h.at_ (i:=0) hn0;have h1:=List.mem_of_getElem? hr0;rw [<- (f8 r0 h1).1];exact f2 r0 h1
 exact ⟨hn0,by omega,by omega,hm12,by omega,by omega,fun r hr=>(f8 r hr).1⟩
theorem Zr0 (E0 : Int) (Q : List (List Rat)) (n : Nat) (hq : E0 = 0 -> SmallQ Q n) : ∃ d : DF,(E0 = 0 -> d = dfQ (Zac n (Zm Q))) /\ ∀ (w : World) (A : Option Addr) (c : Nat) (rs : List RX),MXL w A n c rs -> sqE rs = E0 -> qM rs = Q ->
    Calls Tryz.prog 24 #[.slice A n c] w (FracD w d E0):=by
 by_cases hE : E0 = 0
 ·subst hE
  obtain ⟨g1,g2,g3⟩:=(hq rfl).det;refine ⟨dfQ (Zac n (Zm Q)),fun _=>rfl,fun w A c rs h hs hqm=>?_⟩;rw [<- g3];subst hqm
  exact (Zua A n c rs w h hs g1).mono fun e w' he=>FracD.of_fr he
 ·refine ⟨dfZ,fun h=>absurd h hE,fun w A c rs h hs hqm=>(Zvh A n c rs w h E0 hs hE).mono fun e w' he=>?_⟩
  exact ⟨_,_,_,_,_,_,he.1,he.2,Lim.nil _ _ _ (Nat.zero_le _),Lim.nil _ _ _ (Nat.zero_le _)⟩
theorem Zmo (E0 : Int) (V : Bool) (Q : List (List Rat)) (b : List Rat) (n nb : Nat) (hq : E0 = 0 -> SmallQ Q n) (hb : V = true -> ∀ i : Nat,(b[i]?.getD 0).num.natAbs <= pw 2 /\ (b[i]?.getD 0).den <= pw 2) : ∃ (E : Int) (ds : List DF),
    (E0 = 0 -> V = true -> nb = n -> (Zac n (Zm Q) = 0 /\ E = 18 /\ ds = []) \/ (Zac n (Zm Q) ≠ 0 /\ E = 0 /\ ∃ X : Nat -> Rat,ds = ((List.range n).map X).map dfQ /\ (∀ i,i < n -> sumQ n (fun j=>Zm Q i j * X j) = b[i]?.getD 0) /\ ∀ i,(X i).num.natAbs <= pw ((2 * (n + 1) + 2 + 1) * n) /\ (X i).den <= pw ((2 * (n + 1) + 2 + 1) * n))) /\
    ∀ (w : World) (A B : Option Addr) (c cb : Nat) (rs : List RX) (es : List FX),MXL w A n c rs -> FXL w B nb cb es -> sqE rs = E0 -> qM rs = Q -> Zbs es = V -> es.map FX.q = b ->
    Calls Tryz.prog 26 #[.slice A n c,.slice B nb cb] w (RowD w ds E):=by
 have none_ : ∀ (E : Int) (w w' : World) (e : Ending),(e = .returned (.tuple #[.slice none 0 0,.int .i64 E]) /\ Below w.heap.size w w') -> RowD w [] E e w':=fun E w w' e h=>⟨_,_,_,h.1,h.2,XL.nil _⟩
 by_cases hE : E0 = 0
 ·subst hE
  by_cases hv : nb ≠ n \/ V = false
  ·refine ⟨8,[],fun _ h1 h2=>?_,fun w A B c cb rs es h hbx hs hqm hvv _=>?_⟩
   ·rcases hv with hv | hv
    ·exact absurd h2 hv
    ·rw [hv] at h1;cases h1
   ·rw [<- hvv] at hv
    exact (Zp2 A B n c nb cb rs es w h hbx hs hv).mono fun e w' he=>none_ _ _ _ _ he
  ·obtain ⟨rfl,rfl⟩ : nb = n /\ V = true:=⟨Classical.byContradiction fun h=>hv (.inl h),by cases V with
     | true=>rfl
     | false=>exact absurd (.inr rfl) hv⟩
   have hS:=hq rfl;have h5:=hS.2.1;obtain ⟨o1,o2,o3,o4,o5,o6,o7⟩:=hS.solveB (hb rfl)
   have hdet : Zac nb (Zm (wideB Q b nb nb)) = Zac nb (Zm Q):=Zaw fun i j hi hj=>by rw [Zfm hS.2.2.2.1 hS.2.2.1,if_pos hi,if_pos hj]
   by_cases hr : (Zaa nb 0 0 (wideB Q b nb nb) false).2.1 = nb
   ·obtain ⟨x1,X,x2,x3,x4,x5⟩:=o7 hr
    refine ⟨0,((List.range nb).map fun j=>X j nb).map dfQ,fun _ _ _=>.inr ⟨by rw [<- hdet];exact x1,rfl,fun j=>X j nb,rfl,fun i hi=>?_,fun i=>x5 i nb⟩,fun w A B c cb rs es h hbx hs hqm hvv hbq=>?_⟩
    ·have h6:=x4 i nb hi (Nat.le_refl _) (by omega)
     rw [Zfm hS.2.2.2.1 hS.2.2.1,if_pos hi,if_neg (Nat.lt_irrefl _),if_pos rfl] at h6;rw [<- h6]
     exact Zx fun j hj=>by rw [Zfm hS.2.2.2.1 hS.2.2.1,if_pos hi,if_pos hj]
    ·subst hqm hbq
     refine (Ztt A B nb c cb rs es w h hbx hs hvv (by omega) o1 o3 (o4.trans hr) X x3).mono fun e w' he=>?_
     ·obtain ⟨v,rfl,hbw,hO⟩:=he
      obtain ⟨A1,n1,c1,rfl,hx⟩:=hO.xl;exact ⟨_,_,_,rfl,hbw,hx⟩
   ·have hr' : (Zaa nb 0 0 (wideB Q b nb nb) false).2.1 < nb:=by omega
    refine ⟨18,[],fun _ _ _=>.inl ⟨by rw [<- hdet];exact o6 hr',rfl,rfl⟩,fun w A B c cb rs es h hbx hs hqm hvv hbq=>?_⟩;subst hqm hbq
    exact (Ztk A B nb c cb rs es w h hbx hs hvv (by omega) o1 o3 (by rw [o4];exact hr')).mono fun e w' he=>none_ _ _ _ _ he
 ·refine ⟨E0,[],fun h=>absurd h hE,fun w A B c cb rs es h hbx hs hqm hvv _=>?_⟩
  exact (Zrj A B n c nb cb rs es w h hbx E0 hs hE).mono fun e w' he=>none_ _ _ _ _ he
theorem Zpg (E0 : Int) (Q : List (List Rat)) (n : Nat) (hq : E0 = 0 -> SmallQ Q n) : ∃ (E : Int) (D : List (List DF)),
    (E0 = 0 -> (Zac n (Zm Q) = 0 /\ E = 18 /\ D = []) \/ (Zac n (Zm Q) ≠ 0 /\ E = 0 /\ ∃ X : Nat -> Nat -> Rat,D = ((List.range n).map fun i=>(List.range n).map fun c=>X i c).map (fun r=>r.map dfQ) /\ (∀ i c,i < n -> c < n -> sumQ n (fun j=>Zm Q i j * X j c) = if i = c then 1 else 0) /\
     ∀ i c,(X i c).num.natAbs <= pw ((2 * (n + n) + 2 + 1) * n) /\ (X i c).den <= pw ((2 * (n + n) + 2 + 1) * n))) /\
    ∀ (w : World) (A : Option Addr) (c : Nat) (rs : List RX),MXL w A n c rs -> sqE rs = E0 -> qM rs = Q ->
    Calls Tryz.prog 28 #[.slice A n c] w (MatD w D E):=by
 have none_ : ∀ (E : Int) (w w' : World) (e : Ending),(e = .returned (.tuple #[.slice none 0 0,.int .i64 E]) /\ Below w.heap.size w w') -> MatD w [] E e w':=fun E w w' e h=>⟨_,_,_,h.1,h.2,XM.nil _⟩
 by_cases hE : E0 = 0
 ·subst hE
  have hS:=hq rfl;have h5:=hS.2.1;have h0:=hS.1;obtain ⟨o1,o2,o3,o4,o5,o6,o7⟩:=hS.solveI
  have hdet : Zac n (Zm (wideI Q n n 0)) = Zac n (Zm Q):=Zaw fun i j hi hj=>by rw [Zfy hS.2.2.2.1 hS.2.2.1,if_pos hi,if_pos hj]
  by_cases hr : (Zaa n 0 0 (wideI Q n n 0) false).2.1 = n
  ·obtain ⟨x1,X,x2,x3,x4,x5⟩:=o7 hr
   have hsol : Zfw X n (n + n) = (List.range n).map fun i=>(List.range n).map fun c=>X i (n + c):=by unfold Zfw;rw [Nat.add_sub_cancel]
   refine ⟨0,((List.range n).map fun i=>(List.range n).map fun c=>X i (n + c)).map (fun r=>r.map dfQ),fun _=>.inr ⟨by rw [<- hdet];exact x1,rfl,fun i c=>X i (n + c),rfl,fun i c hi hc=>?_,fun i c=>x5 i (n + c)⟩,fun w A c rs h hs hqm=>?_⟩
   ·have h6:=x4 i (n + c) hi (by omega) (by omega)
    rw [Zfy hS.2.2.2.1 hS.2.2.1,if_pos hi,if_neg (by omega),Nat.add_sub_cancel_left,if_pos hc] at h6;rw [<- h6]
    exact Zx fun j hj=>by rw [Zfy hS.2.2.2.1 hS.2.2.1,if_pos hi,if_pos hj]
   ·subst hqm
    rw [<- hsol]
    refine (Zo2 A n c rs w h hs (by omega) o1 o3 (o4.trans hr) X x3).mono fun e w' he=>?_
    ·obtain ⟨gO,L,rfl,hbw,hM,hLq⟩:=he
     have hl : L.length = n:=by rw [<- List.length_map (f:=RF.q),hLq];unfold Zfw;simp
     have h7:=(hM.mfl hl (Nat.le_refl n) (by unfold maxLen;omega)).xm;rw [hLq] at h7;exact ⟨_,_,_,rfl,hbw,h7⟩
  ·have hr' : (Zaa n 0 0 (wideI Q n n 0) false).2.1 < n:=by omega
   refine ⟨18,[],fun _=>.inl ⟨by rw [<- hdet];exact o6 hr',rfl,rfl⟩,fun w A c rs h hs hqm=>?_⟩;subst hqm
   exact (Zp1 A n c rs w h hs (by omega) o1 o3 (by rw [o4];exact hr')).mono fun e w' he=>none_ _ _ _ _ he
 ·refine ⟨E0,[],fun h=>absurd h hE,fun w A c rs h hs hqm=>?_⟩
  exact (Zop A n c rs w h E0 hs hE).mono fun e w' he=>none_ _ _ _ _ he
theorem Zs5 (rs : List RI) (rr ws : List Int) : ∃ (E : Int) (ds : List DF) (d : DF),
    (Zei rs rr ws ≠ 0 -> E = Zei rs rr ws) /\
    (Zei rs rr ws = 0 -> (Zac (n0I rs) (Zos rs ws rs.length) = 0 /\ E = 22 /\ ds = []) \/ (Zac (n0I rs) (Zos rs ws rs.length) ≠ 0 /\ E = 0 /\ ∃ x : Nat -> Rat,ds = ((List.range (n0I rs)).map x).map dfQ /\ d = dfQ (Zjl rs rr ws x (n0I rs) rs.length) /\ Zmu rs rr ws x rs.length (n0I rs) /\ Zov rs rr ws x rs.length (n0I rs) /\
     ∃ D,0 < D /\ D <= pw (5 * n0I rs) /\ ∀ k,k < n0I rs -> CD D (pw (5 * n0I rs)) (x k))) /\
    ∀ (w : World) (A B C : Option Addr) (n c m0 d0 k e0 : Nat),MIL w A n c rs -> LimI w B m0 d0 rr -> LimI w C k e0 ws ->
    Calls Tryz.prog 18 #[.slice A n c,.slice B m0 d0,.slice C k e0] w (LeastD w ds d E):=by
 by_cases hE : Zei rs rr ws = 0
 ·by_cases hsz : rs.length <= 200 /\ n0I rs <= 12
  ·obtain ⟨full,X,a1,a2,a3,a4,a5,a6,a7,a8⟩:=Zun (n:=rs.length) (m:=n0I rs) hsz.1 hsz.2 hE
   cases full with
   | true =>
    obtain ⟨x1,x2,x3,x4,x5⟩:=a8 rfl;refine ⟨0,((List.range (n0I rs)).map fun j=>X j (n0I rs)).map dfQ,dfQ (Zjl rs rr ws (fun j=>X j (n0I rs)) (n0I rs) rs.length),fun h=>absurd hE h,fun _=>.inr ⟨a7.1 rfl,rfl,fun j=>X j (n0I rs),rfl,rfl,x3,x4,x5⟩,fun w A B C n c m0 d0 k e0 h hr hw=>?_⟩;obtain ⟨p1,p2,p3,p4,p5,p6,p7⟩:=Znt h hE;obtain rfl : rs.length = n:=h.1
    obtain rfl : m0 = rs.length:=by rw [<- hr.1,p5]
    obtain rfl : k = rs.length:=by rw [<- hw.1,p6]
    exact (Zkg A B C _ c d0 e0 _ rs rr ws w h hr hw hE rfl p1 p3 p4 a1 a3 (by rw [a4];exact a5) X (fun _=>x2) true (by rw [a4];exact a6) (fun _=>x4)).mono fun e w' he=>LeastD.of_full rfl he
   | false =>
    refine ⟨22,[],dfZ,fun h=>absurd hE h,fun _=>.inl ⟨Classical.byContradiction fun h=>(by have:=a7.2 h;cases this),rfl,rfl⟩,fun w A B C n c m0 d0 k e0 h hr hw=>?_⟩;obtain ⟨p1,p2,p3,p4,p5,p6,p7⟩:=Znt h hE;obtain rfl : rs.length = n:=h.1
    obtain rfl : m0 = rs.length:=by rw [<- hr.1,p5]
    obtain rfl : k = rs.length:=by rw [<- hw.1,p6]
    have hne : (Zaa (n0I rs) 0 0 (Zbn rs rr ws rs.length (n0I rs)) false).2.1 ≠ n0I rs:=by simpa using a6
    exact (Zkg A B C _ c d0 e0 _ rs rr ws w h hr hw hE rfl p1 p3 p4 a1 a3 (by rw [a4];exact a5) X (fun h=>absurd (a4.symm.trans h) hne) false (by rw [a4];exact a6) (fun h=>(by cases h))).mono fun e w' he=>LeastD.of_short rfl he
  ·refine ⟨0,[],dfZ,fun h=>absurd hE h,fun _=>?_,fun w A B C n c m0 d0 k e0 h hr hw=>?_⟩
   ·exfalso
    obtain ⟨f1,f2,f3,f4,f5,f6,f7,f8⟩:=Zfh hE;refine hsz ⟨f1,?_⟩
    cases hrs : rs with
    | nil=>rw [hrs] at f3;exact absurd rfl f3
    | cons r t =>
     have h1 : r ∈ rs:=by rw [hrs];exact List.mem_cons_self
     rw [<- hrs,<- (f8 r h1).1];exact f2 r h1
   ·exfalso
    obtain ⟨p1,p2,p3,p4,p5,p6,p7⟩:=Znt h hE;have:=h.1;exact hsz ⟨by omega,p4⟩
 ·refine ⟨Zei rs rr ws,[],dfZ,fun _=>rfl,fun h=>absurd h hE,fun w A B C n c m0 d0 k e0 h hr hw=>?_⟩
  exact (Zq5 A B C n c m0 d0 k e0 rs rr ws w h hr hw _ rfl hE).mono fun e w' he=>LeastD.of_bad he
theorem LimI.lit {w : World} {g : Nat} {t : TypeId} {l : List Int} {cs : Array Value} (h : Blk w g t cs) (hc : cs = (l.map (fun x=>Value.int .i64 x)).toArray) (hl : ∀ x ∈ l,I64 x) (hn : l.length <= 1000) : LimI w (some ⟨g,0,none⟩) l.length l.length l:=by
 subst hc;refine ⟨rfl,Nat.le_refl _,by unfold maxLen;omega,hl,fun _=>⟨g,0,rfl,fun k hk=>?_⟩⟩;rw [Nat.zero_add,h.cell]
 simp [List.getElem?_eq_getElem hk]
theorem MFL.two {w : World} {g : Nat} {t : TypeId} {A B : Option Addr} {n c m d : Nat} {p q : List Rat} (h : Blk w g t #[.slice A n c,.slice B m d]) (hp : FL w A n c p) (hq : FL w B m d q) : MFL w (some ⟨g,0,none⟩) 2 2 [p,q]:=by
 refine ⟨rfl,Nat.le_refl _,by unfold maxLen;omega,fun _=>⟨g,0,rfl,fun k r hr=>?_⟩⟩
 match k,hr with
 | 0,hr=>cases hr;exact ⟨A,n,c,h.cell 0,hp⟩
 | 1,hr=>cases hr;exact ⟨B,m,d,h.cell 1,hq⟩
 | k + 2,hr=>simp at hr
theorem FL.two {w : World} {g : Nat} {t : TypeId} {xn : Bool} {xA : Option Addr} {xk xc : Nat} {xm : Bool} {xB : Option Addr} {xj xd : Nat} {yn : Bool} {yA : Option Addr} {yk yc : Nat} {ym : Bool} {yB : Option Addr} {yj yd : Nat} {p q : Rat} (h : Blk w g t #[.bool xn,.slice xA xk xc,.bool xm,.slice xB xj xd,.bool yn,.slice yA yk yc,.bool ym,.slice yB yj yd]) (hp : Fr w xn xA xk xc xm xB xj xd p) (hq : Fr w yn yA yk yc ym yB yj yd q) : FL w (some ⟨g,0,none⟩) 2 2 [p,q]:=by
 refine ⟨[⟨xn,xA,xk,xc,xm,xB,xj,xd,p⟩,⟨yn,yA,yk,yc,ym,yB,yj,yd,q⟩],rfl,Nat.le_refl _,by unfold maxLen;omega,fun e he=>?_,rfl,fun _=>⟨g,0,rfl,fun k r hr=>?_⟩⟩
 ·simp only [List.mem_cons,List.not_mem_nil,or_false] at he
  rcases he with rfl | rfl
  ·exact hp
  ·exact hq
 ·match k,hr with
  | 0,hr=>cases hr;exact ⟨h.cell 0,h.cell 1,h.cell 2,h.cell 3⟩
  | 1,hr=>cases hr;exact ⟨h.cell 4,h.cell 5,h.cell 6,h.cell 7⟩
  | k + 2,hr=>simp at hr
theorem MIL.three {w : World} {g : Nat} {t : TypeId} {a b c : RI} (h : Blk w g t #[.slice a.A a.n a.c,.slice b.A b.n b.c,.slice c.A c.n c.c]) (ha : LimI w a.A a.n a.c a.l) (hb : LimI w b.A b.n b.c b.l) (hc : LimI w c.A c.n c.c c.l) : MIL w (some ⟨g,0,none⟩) 3 3 [a,b,c]:=by
 refine ⟨rfl,Nat.le_refl _,by unfold maxLen;omega,fun r hr=>?_,fun _=>⟨g,0,rfl,fun k r hr=>?_⟩⟩
 ·simp only [List.mem_cons,List.not_mem_nil,or_false] at hr
  rcases hr with rfl | rfl | rfl
  ·exact ha
  ·exact hb
  ·exact hc
 ·match k,hr with
  | 0,hr=>cases hr;exact h.cell 0
  | 1,hr=>cases hr;exact h.cell 1
  | 2,hr=>cases hr;exact h.cell 2
  | k + 3,hr=>simp at hr
theorem Fr.df {w : World} {na : Bool} {A : Option Addr} {n c : Nat} {nb : Bool} {B : Option Addr} {m d : Nat} {q : Rat} (h : Fr w na A n c nb B m d q) : na = (dfQ q).na /\ nb = (dfQ q).nb /\ Lim w A n c (dfQ q).la /\ Lim w B m d (dfQ q).lb:=by
 have h3:=h.2.2.2;rw [Int.natAbs_natCast] at h3;exact ⟨h.1.1,h.neg,h.1.2.2,h3⟩
theorem smE_of {k : Nat} {Q : List (List Rat)} (h : ∀ r ∈ Q,∀ q ∈ r,q.num.natAbs <= pw k /\ q.den <= pw k) : SmE k Q:=fun i j=>by
 unfold Zm
 by_cases hi : i < Q.length
 ·rw [List.getElem?_eq_getElem hi,Option.getD_some]
  by_cases hj : j < Q[i].length
  ·rw [List.getElem?_eq_getElem hj,Option.getD_some]
   exact h _ (List.getElem_mem _) _ (List.getElem_mem _)
  ·rw [List.getElem?_eq_none (l:=Q[i]) (by omega)];exact Zd0 k
 ·rw [List.getElem?_eq_none (l:=Q) (by omega)];exact Zd0 k
theorem Zr3 {q : Rat} (h : q.num.natAbs <= 9) (h2 : q.den <= 9) : Sm8 q:=by
 have : 9 < pw 8:=by decide +kernel
 exact ⟨by omega,by omega⟩
theorem Znx {q : Rat} (h : q.num.natAbs <= 9) (h2 : q.den <= 9) : q.num.natAbs <= pw 2 /\ q.den <= pw 2:=by
 have : 9 <= pw 2:=by decide +kernel
 exact ⟨by omega,by omega⟩
theorem Zep : ∀ r ∈ ([[1,2],[3,4]] : List (List Rat)),∀ q ∈ r,q.num.natAbs <= 9 /\ q.den <= 9:=by decide +kernel
theorem Zl3 : ∀ q ∈ ([5,6] : List Rat),q.num.natAbs <= 9 /\ q.den <= 9:=by decide +kernel
theorem Ziu : SmallQ [[1,2],[3,4]] 2:=by
 refine ⟨by decide,by decide,rfl,fun i hi=>?_,smE_of fun r hr q hq=>Znx (Zep r hr q hq).1 (Zep r hr q hq).2⟩
 match i,hi with
 | 0,_=>rfl
 | 1,_=>rfl
theorem Zm3 : Zac 2 (Zm [[1,2],[3,4]]) = -2:=by decide +kernel
theorem Zsz (A B C : Option Addr) (a b c : Nat) : Zac 2 (Zos [⟨A,2,a,[1,0]⟩,⟨B,2,b,[1,1]⟩,⟨C,2,c,[1,2]⟩] [1,1,1] 3) ≠ 0:=by
 have : Zac 2 (Zos [⟨A,2,a,[1,0]⟩,⟨B,2,b,[1,1]⟩,⟨C,2,c,[1,2]⟩] [1,1,1] 3) = Zac 2 (Zos [⟨none,2,2,[1,0]⟩,⟨none,2,2,[1,1]⟩,⟨none,2,2,[1,2]⟩] [1,1,1] 3):=rfl;rw [this]
 decide +kernel
theorem Zsl (A B C : Option Addr) (a b c : Nat) : Zei [⟨A,2,a,[1,0]⟩,⟨B,2,b,[1,1]⟩,⟨C,2,c,[1,2]⟩] [0,1,1] [1,1,1] = 0:=by
 have : Zei [⟨A,2,a,[1,0]⟩,⟨B,2,b,[1,1]⟩,⟨C,2,c,[1,2]⟩] [0,1,1] [1,1,1] = Zei [⟨none,2,2,[1,0]⟩,⟨none,2,2,[1,1]⟩,⟨none,2,2,[1,2]⟩] [0,1,1] [1,1,1]:=rfl;rw [this]
 decide +kernel
theorem Zp6 {X : Nat -> Rat} (h : ∀ i,i < 2 -> sumQ 2 (fun j=>Zm [[1,2],[3,4]] i j * X j) = ([5,6] : List Rat)[i]?.getD 0) : (List.range 2).map X = [-4,9 / 2]:=by
 have h0:=h 0 (by decide);have h1:=h 1 (by decide);have e0 : (0 : Rat) + 1 * X 0 + 2 * X 1 = 5:=h0;have e1 : (0 : Rat) + 3 * X 0 + 4 * X 1 = 6:=h1
 have a0 : X 0 = -4:=by grind
 have a1 : X 1 = 9 / 2:=by grind
 show [X 0,X 1] = _;rw [a0,a1]
theorem Zpt {A B C : Option Addr} {a b c : Nat} {x : Nat -> Rat} (h : Zmu [⟨A,2,a,[1,0]⟩,⟨B,2,b,[1,1]⟩,⟨C,2,c,[1,2]⟩] [0,1,1] [1,1,1] x 3 2) : (List.range 2).map x = [1 / 6,1 / 2] /\ Zjl [⟨A,2,a,[1,0]⟩,⟨B,2,b,[1,1]⟩,⟨C,2,c,[1,2]⟩] [0,1,1] [1,1,1] x 2 3 = 1 / 6:=by
 have hs:=Zu4 h;have h0:=h 0 (by decide);have h1:=h 1 (by decide);have e0 : (0 : Rat) + ((3 : Int) : Rat) * x 0 + ((3 : Int) : Rat) * x 1 = ((2 : Int) : Rat):=h0;have e1 : (0 : Rat) + ((3 : Int) : Rat) * x 0 + ((5 : Int) : Rat) * x 1 = ((3 : Int) : Rat):=h1;have e2 : Zlc [⟨A,2,a,[1,0]⟩,⟨B,2,b,[1,1]⟩,⟨C,2,c,[1,2]⟩] [0,1,1] [1,1,1] x 3 2 = ((2 : Int) : Rat) - ((0 : Rat) + x 0 * ((2 : Int) : Rat) + x 1 * ((3 : Int) : Rat)):=rfl;have c2 : ((2 : Int) : Rat) = 2:=rfl;have c3 : ((3 : Int) : Rat) = 3:=rfl;have c5 : ((5 : Int) : Rat) = 5:=rfl;rw [c3,c2] at e0;rw [c3,c5] at e1;rw [c3,c2] at e2
 have a1 : x 1 = 1 / 2:=by grind
 have a0 : x 0 = 1 / 6:=by grind
 refine ⟨?_,?_⟩
 ·show [x 0,x 1] = _
  rw [a0,a1]
 ·rw [hs,e2,a0,a1]
  grind
theorem Zvf (w : World) : Calls Tryz.prog 32 #[] w fun e w'=>e = .returned (.bool true) /\ Below w.heap.size w w':=by
 have hmx : Tryz.prog.follows .mixedOrders = true:=by kernel_rfl
 have i64 : ∀ l : List Int,(∀ x ∈ l,x.natAbs <= 9) -> ∀ x ∈ l,I64 x:=fun l h x hx=>by have:=h x hx;unfold I64;omega
 obtain ⟨g1,hg1⟩ : ∃ g,w.heap.size = g:=⟨_,rfl⟩;obtain ⟨V1,hV1,qa,hbV1⟩:=Za2 (w:=w) 2 #[.int .i64 1,.int .i64 2];have hl1:=LimI.lit (l:=[1,2]) qa rfl (i64 _ (by decide)) (by decide);rw [hg1] at hl1;go_enter Tryz.func32,Tryz.ntmps32;go_wp2_with fail;(try rw [hg1]);(try rw [hV1]);clear hV1 qa;replace hg1:=Za hg1;refine (Znu (some ⟨g1,0,none⟩) 2 2 [1,2] V1 hl1 (by decide)).mono ?_;rintro e w2 ⟨v2,rfl,hb2,hO2⟩;have hB2:=hbV1.trans (hb2.mono hbV1.size);obtain ⟨A2,c2,rfl,hF2⟩:=hO2.fl;replace hF2 : FL w2 A2 2 c2 [1,2]:=hF2;replace hF2:=Za hF2;clear hO2 hl1 hb2 hbV1;obtain ⟨g2,hg2⟩ : ∃ g,w2.heap.size = g:=⟨_,rfl⟩;obtain ⟨V2,hV2,qa,hbV2⟩:=Za2 (w:=w2) 2 #[.int .i64 3,.int .i64 4];have hl1:=LimI.lit (l:=[3,4]) qa rfl (i64 _ (by decide)) (by decide);rw [hg2] at hl1;simp only [List.map_cons,List.map_nil,List.length_cons,List.length_nil];go_wp2_with fail;(try rw [hg2]);(try rw [hV2]);clear hV2 qa;replace hg2:=Za hg2;refine (Znu (some ⟨g2,0,none⟩) 2 2 [3,4] V2 hl1 (by decide)).mono ?_;rintro e w3 ⟨v3,rfl,hb3,hO3⟩;have hb23:=hbV2.trans (hb3.mono hbV2.size);have hB3:=hB2.trans (hb23.mono hB2.size);obtain ⟨A3,c3,rfl,hF3⟩:=hO3.fl;replace hF3 : FL w3 A3 2 c3 [3,4]:=hF3;replace hF2:=Za (hF2.out.below hb23);replace hF3:=Za hF3;clear hO3 hl1 hb3 hbV2 hb23 hB2;obtain ⟨g4,hg4⟩ : ∃ g,w3.heap.size = g:=⟨_,rfl⟩;obtain ⟨V4,hV4,qa,hbV4⟩:=Za2 (w:=w3) 40 #[.slice A2 2 c2,.slice A3 2 c3];rw [hg4] at qa;have hM4:=MFL.two qa (hF2.out.below hbV4) (hF3.out.below hbV4)
 obtain ⟨rs,hM,hqm,hrows⟩:=hM4.mxl (fun r hr q hq=>Zr3 (Zep r hr q hq).1 (Zep r hr q hq).2);have hB4:=hB3.trans (hbV4.mono hB3.size)
 have hfine:=Zuj hM (m:=2) (by decide) (by decide) (by decide) (by decide) (fun r hr=>by
  obtain ⟨k,hk,rfl⟩:=List.getElem_of_mem hr;have h5:=hrows k _ (List.getElem?_eq_getElem hk)
  have hk2 : k < 2:=by rw [<- hM.1];exact hk
  refine ⟨h5.1.trans ?_,h5.2⟩
  match k,hk2 with
  | 0,_=>rfl
  | 1,_=>rfl)
 have hsq : sqE rs = 0:=by
  unfold sqE;rw [if_pos hfine.1,if_pos (by rw [hfine.2,hM.1])]
 obtain ⟨dd,hdd,hdet⟩:=Zr0 0 [[1,2],[3,4]] 2 (fun _=>Ziu)
 obtain ⟨E5,ds5,hds5,hsol⟩:=Zmo 0 true [[1,2],[3,4]] [5,6] 2 2 (fun _=>Ziu) (fun _ i=>by
  by_cases hi : i < 2
  ·match i,hi with
   | 0,_=>exact Znx (by decide +kernel) (by decide +kernel)
   | 1,_=>exact Znx (by decide +kernel) (by decide +kernel)
  ·rw [List.getElem?_eq_none (by simp;omega)];exact Zd0 2)
 have hE5 : E5 = 0 /\ ds5 = [dfQ (-4),dfQ (9 / 2)]:=by
  rcases hds5 rfl rfl rfl with ⟨h1,-⟩ | ⟨-,h2,X,h3,h4,-⟩
  ·rw [Zm3] at h1
   exact absurd h1 (by decide +kernel)
  ·refine ⟨h2,?_⟩
   rw [h3,Zp6 h4]
   rfl
 obtain ⟨rfl,rfl⟩:=hE5;replace hdd:=hdd rfl;rw [Zm3] at hdd;subst hdd;replace hdet:=Za hdet;replace hsol:=Za hsol;replace hM:=Za hM;replace hsq:=Za hsq;replace hqm:=Za hqm;clear hds5 hfine hrows hM4 hF2 hF3 qa;go_wp2_with fail;(try rw [hg4]);(try rw [hV4]);clear hV4;replace hg4:=Za hg4;refine (hdet.out V4 (some ⟨g4,0,none⟩) 2 rs hM.out hsq.out hqm.out).mono ?_;rintro e w5 ⟨dA,dk,dc,dB,dj,dd1,rfl,hb5,l1,l2⟩;have hB5:=hB4.trans (hb5.mono hB4.size);obtain ⟨g5,hg5⟩ : ∃ g,w5.heap.size = g:=⟨_,rfl⟩;obtain ⟨V5,hV5,q5,hbV5⟩:=Za2 (w:=w5) 45 #[.bool (dfQ (-2)).na,.slice dA dk dc,.bool (dfQ (-2)).nb,.slice dB dj dd1];rw [hg5] at q5;have hB5':=hB5.trans (hbV5.mono hB5.size);have hb45:=hb5.trans (hbV5.mono hb5.size);replace l1:=Za (l1.below hbV5);replace l2:=Za (l2.below hbV5);replace q5:=Za q5;replace hM:=Za (hM.out.below hb45);clear hdet hb5 hbV5 hb45 hB4 hB5;obtain ⟨g6,hg6⟩ : ∃ g,V5.heap.size = g:=⟨_,rfl⟩;obtain ⟨V6,hV6,qa,hbV6⟩:=Za2 (w:=V5) 2 #[.int .i64 5,.int .i64 6];have hl1:=LimI.lit (l:=[5,6]) qa rfl (i64 _ (by decide)) (by decide);rw [hg6] at hl1;go_wp2_with fail;(try rw [hg5]);(try rw [hV5]);(try rw [hg6]);(try rw [hV6]);clear hV5 hV6 qa;replace hg5:=Za hg5;replace hg6:=Za hg6;refine (Znu (some ⟨g6,0,none⟩) 2 2 [5,6] V6 hl1 (by decide)).mono ?_;rintro e w7 ⟨v7,rfl,hb7,hO7⟩;have hb57:=hbV6.trans (hb7.mono hbV6.size);have hB7:=hB5'.trans (hb57.mono hB5'.size);obtain ⟨A7,c7,rfl,hF7⟩:=hO7.fl;replace hF7 : FL w7 A7 2 c7 [5,6]:=hF7
 obtain ⟨es,hX7,heq,hvec⟩:=hF7.fxl (fun q hq=>Zr3 (Zl3 q hq).1 (Zl3 q hq).2);replace hM:=Za (hM.out.below hb57);replace l1:=Za (l1.out.below hb57);replace l2:=Za (l2.out.below hb57);replace q5:=Za (Zc hb57 q5.out);replace hX7:=Za hX7;replace hvec:=Za hvec;replace heq:=Za heq;clear hO7 hF7 hb7 hbV6 hb57 hB5' hl1;simp only [List.map_cons,List.map_nil,List.length_cons,List.length_nil];go_wp2_with fail;refine ((hsol.out w7 (some ⟨g4,0,none⟩) A7 2 c7 rs es hM.out hX7.out hsq.out hqm.out hvec.out heq.out)).mono ?_;rintro e w8 ⟨A8,n8,c8,rfl,hb8,y1⟩;have hB8:=hB7.trans (hb8.mono hB7.size);obtain rfl : 2 = n8:=y1.1;replace l1:=Za (l1.out.below hb8);replace l2:=Za (l2.out.below hb8);replace q5:=Za (Zc hb8 q5.out);replace y1:=Za y1;clear hsol hM hX7 hvec heq hsq hqm hb8 hB7;obtain ⟨k1,hk1⟩ : ∃ g,w8.heap.size = g:=⟨_,rfl⟩;obtain ⟨U1,hU1,r1,hbU1⟩:=Za2 (w:=w8) 2 #[.int .i64 1,.int .i64 0];rw [hk1] at r1;obtain ⟨k2,hk2⟩ : ∃ g,U1.heap.size = g:=⟨_,rfl⟩;obtain ⟨U2,hU2,r2,hbU2⟩:=Za2 (w:=U1) 2 #[.int .i64 1,.int .i64 1];rw [hk2] at r2;obtain ⟨k3,hk3⟩ : ∃ g,U2.heap.size = g:=⟨_,rfl⟩;obtain ⟨U3,hU3,r3,hbU3⟩:=Za2 (w:=U2) 2 #[.int .i64 1,.int .i64 2];rw [hk3] at r3;obtain ⟨k4,hk4⟩ : ∃ g,U3.heap.size = g:=⟨_,rfl⟩;obtain ⟨U4,hU4,r4,hbU4⟩:=Za2 (w:=U3) 34 #[.slice (some ⟨k1,0,none⟩) 2 2,.slice (some ⟨k2,0,none⟩) 2 2,.slice (some ⟨k3,0,none⟩) 2 2];rw [hk4] at r4;obtain ⟨k5,hk5⟩ : ∃ g,U4.heap.size = g:=⟨_,rfl⟩;obtain ⟨U5,hU5,r5,hbU5⟩:=Za2 (w:=U4) 2 #[.int .i64 0,.int .i64 1,.int .i64 1];rw [hk5] at r5
 obtain ⟨k6,hk6⟩ : ∃ g,U5.heap.size = g:=⟨_,rfl⟩;obtain ⟨U6,hU6,r6,hbU6⟩:=Za2 (w:=U5) 2 #[.int .i64 1,.int .i64 1,.int .i64 1];rw [hk6] at r6;have h56:=hbU5.trans (hbU6.mono hbU5.size);have h46:=hbU4.trans (h56.mono hbU4.size);have h36:=hbU3.trans (h46.mono hbU3.size);have h26:=hbU2.trans (h36.mono hbU2.size);have h16:=hbU1.trans (h26.mono hbU1.size);have hB9:=hB8.trans (h16.mono hB8.size);have la:=LimI.lit (l:=[1,0]) (Zc h26 r1) rfl (i64 _ (by decide)) (by decide);have lb:=LimI.lit (l:=[1,1]) (Zc h36 r2) rfl (i64 _ (by decide)) (by decide);have lc:=LimI.lit (l:=[1,2]) (Zc h46 r3) rfl (i64 _ (by decide)) (by decide);have hMI:=Za (MIL.three (a:=⟨some ⟨k1,0,none⟩,2,2,[1,0]⟩) (b:=⟨some ⟨k2,0,none⟩,2,2,[1,1]⟩) (c:=⟨some ⟨k3,0,none⟩,2,2,[1,2]⟩) (Zc h56 r4) la lb lc);have hR5:=Za (LimI.lit (l:=[0,1,1]) (Zc hbU6 r5) rfl (i64 _ (by decide)) (by decide));have hR6:=Za (LimI.lit (l:=[1,1,1]) r6 rfl (i64 _ (by decide)) (by decide));replace l1:=Za (l1.out.below h16);replace l2:=Za (l2.out.below h16);replace q5:=Za (Zc h16 q5.out);replace y1:=Za (y1.out.below h16);obtain ⟨E9,ds9,d9,-,hds9,hlst⟩:=Zs5 [⟨some ⟨k1,0,none⟩,2,2,[1,0]⟩,⟨some ⟨k2,0,none⟩,2,2,[1,1]⟩,⟨some ⟨k3,0,none⟩,2,2,[1,2]⟩] [0,1,1] [1,1,1]
 have hE9 : E9 = 0 /\ ds9 = [dfQ (1 / 6),dfQ (1 / 2)] /\ d9 = dfQ (1 / 6):=by
  rcases hds9 (Zsl _ _ _ _ _ _) with ⟨h1,-⟩ | ⟨-,h2,X,h3,h4,h5,-⟩
  ·exact absurd h1 (Zsz _ _ _ _ _ _)
  ·have h6:=Zpt h5
   have e1 : ds9 = ((List.range 2).map X).map dfQ:=h3;have e2 : d9 = dfQ (Zjl [⟨some ⟨k1,0,none⟩,2,2,[1,0]⟩,⟨some ⟨k2,0,none⟩,2,2,[1,1]⟩,⟨some ⟨k3,0,none⟩,2,2,[1,2]⟩] [0,1,1] [1,1,1] X 2 3):=h4;refine ⟨h2,?_,?_⟩
   ·rw [e1,h6.1];rfl
   ·rw [e2,h6.2]
 obtain ⟨rfl,rfl,rfl⟩:=hE9;replace hlst:=Za hlst;clear hds9 la lb lc r1 r2 r3 r4 r5 r6 hbU1 hbU2 hbU3 hbU4 hbU5 hbU6 h56 h46 h36 h26 h16 hB8;go_wp2_with fail;(try rw [hk1]);(try rw [hU1]);(try rw [hk2]);(try rw [hU2]);(try rw [hk3]);(try rw [hU3]);(try rw [hk4]);(try rw [hU4]);(try rw [hk5]);(try rw [hU5]);(try rw [hk6]);(try rw [hU6]);clear hU1 hU2 hU3 hU4 hU5 hU6;replace hk1:=Za hk1;replace hk2:=Za hk2;replace hk3:=Za hk3;replace hk4:=Za hk4;replace hk5:=Za hk5;replace hk6:=Za hk6;refine ((hlst.out U6 (some ⟨k4,0,none⟩) (some ⟨k5,0,none⟩) (some ⟨k6,0,none⟩) 3 3 3 3 3 3 hMI.out hR5.out hR6.out)).mono ?_;rintro e w9 ⟨A9,n9,c9,sA,sk,sc,sB,sj,sd,rfl,hb9,y2,l3,l4⟩;obtain rfl : 2 = n9:=y2.1;have hB10:=hB9.trans (hb9.mono hB9.size);obtain ⟨g10,hg10⟩ : ∃ g,w9.heap.size = g:=⟨_,rfl⟩;obtain ⟨V10,hV10,q10,hbV10⟩:=Za2 (w:=w9) 45 #[.bool (dfQ (1 / 6)).na,.slice sA sk sc,.bool (dfQ (1 / 6)).nb,.slice sB sj sd];rw [hg10] at q10;have hb9':=hb9.trans (hbV10.mono hb9.size);have hB11:=Za (hB10.trans (hbV10.mono hB10.size));replace l1:=Za (l1.out.below hb9');replace l2:=Za (l2.out.below hb9');replace q5:=Za (Zc hb9' q5.out);replace y1:=Za (y1.out.below hb9');replace y2:=Za (y2.below hbV10);replace l3:=Za (l3.below hbV10);replace l4:=Za (l4.below hbV10);replace q10:=Za q10;clear hlst hMI hR5 hR6 hb9 hb9' hbV10 hB9 hB10;go_wp2_with fail;(try rw [hg10]);(try rw [hV10]);clear hV10;replace hg10:=Za hg10;obtain ⟨c0,c1,c2',c3',-⟩:=q5.out.four
 refine Zaj [] (fun wx=>wx.cell? ⟨g5,0,none⟩ = some (.bool (dfQ (-2)).na) /\ wx.cell? ⟨g5,1,none⟩ = some (.slice dA dk dc) /\ wx.cell? ⟨g5,2,none⟩ = some (.bool (dfQ (-2)).nb) /\ wx.cell? ⟨g5,3,none⟩ = some (.slice dB dj dd1)) hmx ⟨c0,c1,c2',c3'⟩ (fun _=>?_);refine Zit 4 [0,1,2,3] rfl (by kernel_rfl) ⟨c0,c1,c2',c3'⟩ ?_
 iterate 4 (refine tk1 (v:=?_) rfl (Or.inl ⟨by kernel_rfl,?_⟩) ?_;rotate_left;(· intro W2 hSw;(try dsimp only at hSw);go_simp;try with_reducible rfl);try simp only [Act.put,Zfi,Zfz,Zft,putG_a,putG_s,putG_z])
 refine tk0 ?_;refine Ze (i:=4) rfl (by kernel_rfl) (fun K hK=>?_);(try rw [if_pos (by kernel_rfl)]);go_simp;refine (Zdc (-2) 1 V10.drew (by decide) (by decide) (by decide) (by decide)).mono ?_;rintro e x1 ⟨hx1,pn,pA,pk,pc,pm,pB,pj,pd,rfl,hp⟩;rw [Zca] at hp;replace hx1:=Zr hx1;obtain ⟨e1,e2,m1,m2⟩:=hp.df;replace l1:=Za (l1.out.below hx1);replace l2:=Za (l2.out.below hx1);replace c0:=Zb hx1 c0;replace c1:=Zb hx1 c1;replace c2':=Zb hx1 c2';replace c3':=Zb hx1 c3';refine hK.out _ _ (fun _=>⟨c0,c1,c2',c3'⟩) ?_;clear hK K
 try simp only [Act.put,Zfi,Zfz,Zft]
 subst e1 e2;refine Ze (i:=5) rfl (by kernel_rfl) (fun K hK=>?_);(try rw [if_pos (by kernel_rfl)]);go_simp;refine (Zdp (dfQ (-2)).na (dfQ (-2)).nb dA dB pA pB dk dc dj dd1 pk pc pj pd (dfQ (-2)).la (dfQ (-2)).lb x1 l1.out l2.out m1 m2).mono ?_;rintro e x2 ⟨rfl,hx2⟩;replace c0:=Zb hx2 c0;replace c1:=Zb hx2 c1;replace c2':=Zb hx2 c2';replace c3':=Zb hx2 c3';refine hK.out _ _ (fun _=>⟨c0,c1,c2',c3'⟩) ?_;clear hK K
 try simp only [Act.put,Zfi,Zfz,Zft]
 refine Zit 7 [6,7,8,9,10,11,12] rfl (by kernel_rfl) ⟨c0,c1,c2',c3'⟩ ?_
 iterate 7 (refine tk1 (v:=?_) rfl (Or.inl ⟨by kernel_rfl,?_⟩) ?_;rotate_left;(· intro W2 hSw;(try dsimp only at hSw);go_simp;try with_reducible rfl);try simp only [Act.put,Zfi,Zfz,Zft,putG_a,putG_s,putG_z])
 refine tk0 ?_;have hx12:=hx1.trans (hx2.mono hx1.size);replace y1:=Za (y1.out.below hx12);replace y2:=Za (y2.out.below hx12);replace l3:=Za (l3.out.below hx12);replace l4:=Za (l4.out.below hx12);replace q10:=Za (Zc hx12 q10.out);replace hB11:=Za (hB11.out.trans (hx12.mono hB11.out.size));clear hx12 hx1 hx2 m1 m2 hp l1 l2 q5;refine Ze (i:=13) rfl (by kernel_rfl) (fun K hK=>?_);(try rw [if_pos (by kernel_rfl)]);go_simp;refine (Zdc (-4) 1 x2 (by decide) (by decide) (by decide) (by decide)).mono ?_;rintro e x3 ⟨h1,un,uA,uk,uc,um,uB,uj,ud,rfl,hu⟩;replace c0:=Zb h1 c0;replace c1:=Zb h1 c1;replace c2':=Zb h1 c2';replace c3':=Zb h1 c3';replace y1:=Za (y1.out.below h1);replace y2:=Za (y2.out.below h1);replace l3:=Za (l3.out.below h1);replace l4:=Za (l4.out.below h1);replace q10:=Za (Zc h1 q10.out);replace hB11:=Za (hB11.out.trans (Below.mono h1 hB11.out.size));clear h1;refine hK.out _ _ (fun _=>⟨c0,c1,c2',c3'⟩) ?_;clear hK K
 try simp only [Act.put,Zfi,Zfz,Zft]
 refine Ze (i:=14) rfl (by kernel_rfl) (fun K hK=>?_);(try rw [if_pos (by kernel_rfl)]);go_simp;refine (Zdc 9 2 x3 (by decide) (by decide) (by decide) (by decide)).mono ?_;rintro e x4 ⟨h2,vn,vA,vk,vc,vm,vB,vj,vd,rfl,hv⟩;replace hu:=hu.below h2;replace c0:=Zb h2 c0;replace c1:=Zb h2 c1;replace c2':=Zb h2 c2';replace c3':=Zb h2 c3';replace y1:=Za (y1.out.below h2);replace y2:=Za (y2.out.below h2);replace l3:=Za (l3.out.below h2);replace l4:=Za (l4.out.below h2);replace q10:=Za (Zc h2 q10.out);replace hB11:=Za (hB11.out.trans (Below.mono h2 hB11.out.size));clear h2;refine hK.out _ _ (fun _=>⟨c0,c1,c2',c3'⟩) ?_;clear hK K
 try simp only [Act.put,Zfi,Zfz,Zft]
 obtain ⟨gl,hgl⟩ : ∃ g,x4.heap.size = g:=⟨_,rfl⟩;obtain ⟨Vl,hVl,ql,hbl⟩:=Za2 (w:=x4) 45 #[.bool un,.slice uA uk uc,.bool um,.slice uB uj ud,.bool vn,.slice vA vk vc,.bool vm,.slice vB vj vd];rw [hgl] at ql;have hFl:=(FL.two ql (hu.below hbl) (hv.below hbl)).xl;refine Ze (i:=15) rfl (by kernel_rfl) (fun K hK=>?_);(try rw [if_pos (by kernel_rfl)]);go_simp;(try rw [hgl]);(try rw [hVl]);clear hVl;replace c0:=Zb hbl c0;replace c1:=Zb hbl c1;replace c2':=Zb hbl c2';replace c3':=Zb hbl c3';replace y1:=Za (y1.out.below hbl);replace y2:=Za (y2.out.below hbl);replace l3:=Za (l3.out.below hbl);replace l4:=Za (l4.out.below hbl);replace q10:=Za (Zc hbl q10.out);replace hB11:=Za (hB11.out.trans (Below.mono hbl hB11.out.size));clear hbl;refine hK.out _ _ (fun _=>⟨c0,c1,c2',c3'⟩) ?_;clear hK K
 try simp only [Act.put,Zfi,Zfz,Zft]
 rw [show [Rat.divInt (-4) 1,Rat.divInt 9 2].map dfQ = [dfQ (-4),dfQ (9 / 2)] by
  simp only [List.map_cons,List.map_nil]
  rw [show Rat.divInt (-4) 1 = (-4) by decide +kernel,show Rat.divInt 9 2 = (9 / 2) by decide +kernel]] at hFl
 refine Ze (i:=16) rfl (by kernel_rfl) (fun K hK=>?_);(try rw [if_pos (by kernel_rfl)]);go_simp;refine (Zh7 A8 (some ⟨gl,0,none⟩) 2 c8 2 _ Vl (y1.out) hFl).mono ?_;rintro e x5 ⟨rfl,h4⟩;replace c0:=Zb h4 c0;replace c1:=Zb h4 c1;replace c2':=Zb h4 c2';replace c3':=Zb h4 c3';replace y1:=Za (y1.out.below h4);replace y2:=Za (y2.out.below h4);replace l3:=Za (l3.out.below h4);replace l4:=Za (l4.out.below h4);replace q10:=Za (Zc h4 q10.out);replace hB11:=Za (hB11.out.trans (Below.mono h4 hB11.out.size));clear h4;refine hK.out _ _ (fun _=>⟨c0,c1,c2',c3'⟩) ?_;clear hK K
 try simp only [Act.put,Zfi,Zfz,Zft]
 clear hFl ql hu hv;refine Zit 1 [17] rfl (by kernel_rfl) ⟨c0,c1,c2',c3'⟩ ?_
 (refine tk1 (v:=?_) rfl (Or.inl ⟨by kernel_rfl,?_⟩) ?_;rotate_left;(· intro W2 hSw;(try dsimp only at hSw);go_simp;try with_reducible rfl);try simp only [Act.put,Zfi,Zfz,Zft,putG_a,putG_s,putG_z])
 refine tk0 ?_;refine Zfk 1 [18] rfl (by kernel_rfl) ⟨c0,c1,c2',c3'⟩ ?_
 (refine tk1 (v:=?_) rfl (Or.inl ⟨by kernel_rfl,?_⟩) ?_;rotate_left;(· intro W2 _;go_simp;try with_reducible rfl);try simp only [Act.put,Zfi,Zfz,Zft,putG_a,putG_s,putG_z])
 refine tk0 ?_;refine Zk (by kernel_rfl) ?_ _;refine OnlyNormal.normal ?_;clear c0 c1 c2' c3';go_wp2_with fail;obtain ⟨c0,c1,c2',c3',-⟩:=q10.out.four;refine Zaj [] (fun wx=>wx.cell? ⟨g10,0,none⟩ = some (.bool (dfQ (1 / 6)).na) /\ wx.cell? ⟨g10,1,none⟩ = some (.slice sA sk sc) /\ wx.cell? ⟨g10,2,none⟩ = some (.bool (dfQ (1 / 6)).nb) /\ wx.cell? ⟨g10,3,none⟩ = some (.slice sB sj sd)) hmx ⟨c0,c1,c2',c3'⟩ (fun _=>?_);refine Zit 7 [0,1,2,3,4,5,6] rfl (by kernel_rfl) ⟨c0,c1,c2',c3'⟩ ?_
 iterate 7 (refine tk1 (v:=?_) rfl (Or.inl ⟨by kernel_rfl,?_⟩) ?_;rotate_left;(· intro W2 hSw;(try dsimp only at hSw);go_simp;try with_reducible rfl);try simp only [Act.put,Zfi,Zfz,Zft,putG_a,putG_s,putG_z])
 refine tk0 ?_;refine Ze (i:=7) rfl (by kernel_rfl) (fun K hK=>?_);(try rw [if_pos (by kernel_rfl)]);go_simp;refine (Zdc 1 6 x5.drew (by decide) (by decide) (by decide) (by decide)).mono ?_;rintro e x6 ⟨h1,un,uA,uk,uc,um,uB,uj,ud,rfl,hu⟩;replace h1:=Zr h1;replace c0:=Zb h1 c0;replace c1:=Zb h1 c1;replace c2':=Zb h1 c2';replace c3':=Zb h1 c3';replace y2:=Za (y2.out.below h1);replace l3:=Za (l3.out.below h1);replace l4:=Za (l4.out.below h1);replace hB11:=Za (hB11.out.trans (Below.mono h1 hB11.out.size));clear h1;refine hK.out _ _ (fun _=>⟨c0,c1,c2',c3'⟩) ?_;clear hK K
 try simp only [Act.put,Zfi,Zfz,Zft]
 refine Ze (i:=8) rfl (by kernel_rfl) (fun K hK=>?_);(try rw [if_pos (by kernel_rfl)]);go_simp;refine (Zdc 1 2 x6 (by decide) (by decide) (by decide) (by decide)).mono ?_;rintro e x7 ⟨h2,vn,vA,vk,vc,vm,vB,vj,vd,rfl,hv⟩;replace hu:=hu.below h2;replace c0:=Zb h2 c0;replace c1:=Zb h2 c1;replace c2':=Zb h2 c2';replace c3':=Zb h2 c3';replace y2:=Za (y2.out.below h2);replace l3:=Za (l3.out.below h2);replace l4:=Za (l4.out.below h2);replace hB11:=Za (hB11.out.trans (Below.mono h2 hB11.out.size));clear h2;refine hK.out _ _ (fun _=>⟨c0,c1,c2',c3'⟩) ?_;clear hK K
 try simp only [Act.put,Zfi,Zfz,Zft]
 obtain ⟨gl,hgl⟩ : ∃ g,x7.heap.size = g:=⟨_,rfl⟩;obtain ⟨Vl,hVl,ql,hbl⟩:=Za2 (w:=x7) 45 #[.bool un,.slice uA uk uc,.bool um,.slice uB uj ud,.bool vn,.slice vA vk vc,.bool vm,.slice vB vj vd];rw [hgl] at ql;have hFl:=(FL.two ql (hu.below hbl) (hv.below hbl)).xl;refine Ze (i:=9) rfl (by kernel_rfl) (fun K hK=>?_);(try rw [if_pos (by kernel_rfl)]);go_simp;(try rw [hgl]);(try rw [hVl]);clear hVl;replace c0:=Zb hbl c0;replace c1:=Zb hbl c1;replace c2':=Zb hbl c2';replace c3':=Zb hbl c3';replace y2:=Za (y2.out.below hbl);replace l3:=Za (l3.out.below hbl);replace l4:=Za (l4.out.below hbl);replace hB11:=Za (hB11.out.trans (Below.mono hbl hB11.out.size));clear hbl;refine hK.out _ _ (fun _=>⟨c0,c1,c2',c3'⟩) ?_;clear hK K
 try simp only [Act.put,Zfi,Zfz,Zft]
 rw [show [Rat.divInt 1 6,Rat.divInt 1 2].map dfQ = [dfQ (1 / 6),dfQ (1 / 2)] by
  simp only [List.map_cons,List.map_nil]
  rw [show Rat.divInt 1 6 = (1 / 6) by decide +kernel,show Rat.divInt 1 2 = (1 / 2) by decide +kernel]] at hFl
 refine Ze (i:=10) rfl (by kernel_rfl) (fun K hK=>?_);(try rw [if_pos (by kernel_rfl)]);go_simp;refine (Zh7 A9 (some ⟨gl,0,none⟩) 2 c9 2 _ Vl (y2.out) hFl).mono ?_;rintro e x8 ⟨rfl,h4⟩;replace c0:=Zb h4 c0;replace c1:=Zb h4 c1;replace c2':=Zb h4 c2';replace c3':=Zb h4 c3';replace y2:=Za (y2.out.below h4);replace l3:=Za (l3.out.below h4);replace l4:=Za (l4.out.below h4);replace hB11:=Za (hB11.out.trans (Below.mono h4 hB11.out.size));clear h4;refine hK.out _ _ (fun _=>⟨c0,c1,c2',c3'⟩) ?_;clear hK K
 try simp only [Act.put,Zfi,Zfz,Zft]
 clear hFl ql hu hv;refine Zit 3 [11,12,13] rfl (by kernel_rfl) ⟨c0,c1,c2',c3'⟩ ?_
 iterate 3 (refine tk1 (v:=?_) rfl (Or.inl ⟨by kernel_rfl,?_⟩) ?_;rotate_left;(· intro W2 hSw;(try dsimp only at hSw);go_simp;try with_reducible rfl);try simp only [Act.put,Zfi,Zfz,Zft,putG_a,putG_s,putG_z])
 refine tk0 ?_;refine Ze (i:=14) rfl (by kernel_rfl) (fun K hK=>?_);(try rw [if_pos (by kernel_rfl)]);go_simp;refine (Zdc 1 6 x8 (by decide) (by decide) (by decide) (by decide)).mono ?_;rintro e x9 ⟨hx1,pn,pA,pk,pc,pm,pB,pj,pd,rfl,hp⟩;rw [show Rat.divInt 1 6 = 1 / 6 by decide +kernel] at hp;obtain ⟨e1,e2,m1,m2⟩:=hp.df;replace l3:=Za (l3.out.below hx1);replace l4:=Za (l4.out.below hx1);replace hB11:=Za (hB11.out.trans (Below.mono hx1 hB11.out.size));replace c0:=Zb hx1 c0;replace c1:=Zb hx1 c1;replace c2':=Zb hx1 c2';replace c3':=Zb hx1 c3';refine hK.out _ _ (fun _=>⟨c0,c1,c2',c3'⟩) ?_;clear hK K
 try simp only [Act.put,Zfi,Zfz,Zft]
 subst e1 e2;refine Ze (i:=15) rfl (by kernel_rfl) (fun K hK=>?_);(try rw [if_pos (by kernel_rfl)]);go_simp;refine (Zdp (dfQ (1 / 6)).na (dfQ (1 / 6)).nb sA sB pA pB sk sc sj sd pk pc pj pd (dfQ (1 / 6)).la (dfQ (1 / 6)).lb x9 l3.out l4.out m1 m2).mono ?_;rintro e x10 ⟨rfl,hx2⟩;replace hB11:=Za (hB11.out.trans (Below.mono hx2 hB11.out.size));replace c0:=Zb hx2 c0;replace c1:=Zb hx2 c1;replace c2':=Zb hx2 c2';replace c3':=Zb hx2 c3';refine hK.out _ _ (fun _=>⟨c0,c1,c2',c3'⟩) ?_;clear hK K
 try simp only [Act.put,Zfi,Zfz,Zft]
 refine Zit 1 [16] rfl (by kernel_rfl) ⟨c0,c1,c2',c3'⟩ ?_
 (refine tk1 (v:=?_) rfl (Or.inl ⟨by kernel_rfl,?_⟩) ?_;rotate_left;(· intro W2 hSw;(try dsimp only at hSw);go_simp;try with_reducible rfl);try simp only [Act.put,Zfi,Zfz,Zft,putG_a,putG_s,putG_z])
 refine tk0 ?_;refine Zfk 1 [17] rfl (by kernel_rfl) ⟨c0,c1,c2',c3'⟩ ?_
 (refine tk1 (v:=?_) rfl (Or.inl ⟨by kernel_rfl,?_⟩) ?_;rotate_left;(· intro W2 _;go_simp;try with_reducible rfl);try simp only [Act.put,Zfi,Zfz,Zft,putG_a,putG_s,putG_z])
 refine tk0 ?_;refine Zk (by kernel_rfl) ?_ _;refine OnlyNormal.normal ?_;clear c0 c1 c2' c3';go_wp2_with fail;go_ret;exact ⟨rfl,hB11.out⟩
def dotT (P : List (List Rat)) (x : Nat -> Rat) (i t : Nat) : Rat:=sumQ t (fun k=>Zm P i k * x k)
theorem Zkq {n m : Nat} {X : Nat -> Nat -> Rat} {i j : Nat} (hi : i < n) (hj : j < m) : Zm ((List.range n).map fun i=>(List.range m).map fun c=>X i c) i j = X i j:=by
 unfold Zm;rw [List.getElem?_map,List.getElem?_range hi,Option.map_some,Option.getD_some,List.getElem?_map,List.getElem?_range hj];rfl
theorem Zot {n m u : Nat} {X : Nat -> Nat -> Rat} (h : ∀ i j,SmN u u (X i j)) (hu : 0 < u) (i j : Nat) : SmN u u (Zm ((List.range n).map fun i=>(List.range m).map fun c=>X i c) i j):=by
 by_cases hi : i < n
 ·by_cases hj : j < m
  ·rw [Zkq hi hj];exact h i j
  ·unfold Zm
   rw [List.getElem?_map,List.getElem?_range hi,Option.map_some,Option.getD_some,List.getElem?_eq_none (by simp;omega)];exact ⟨Zbl _,Zb6 hu⟩
 ·unfold Zm
  rw [List.getElem?_eq_none (l:=List.map _ _) (by simp;omega)];exact ⟨Zbl _,Zb6 hu⟩
structure TrueP (Q : List (List Rat)) (b : List Rat) (X : Nat -> Nat -> Rat) (x : Nat -> Rat) (n : Nat) : Prop where
 inv : ∀ i c,i < n -> c < n -> sumQ n (fun j=>Zm Q i j * X j c) = if i = c then 1 else 0
 sol : ∀ i,i < n -> sumQ n (fun j=>Zm Q i j * x j) = b[i]?.getD 0
 sX : ∀ i j,SmN 90 90 (X i j)
 sx : ∀ i,SmN 90 90 (x i)
 sQ : ∀ i j,SmN 3 3 (Zm Q i j)
section
variable {Q : List (List Rat)} {b : List Rat} {X : Nat -> Nat -> Rat} {x : Nat -> Rat} {n : Nat}
def Zkw (X : Nat -> Nat -> Rat) (n : Nat) : List (List Rat):=(List.range n).map fun i=>(List.range n).map fun c=>X i c
theorem TrueP.prod (h : TrueP Q b X x n) (hn : n <= 5) : ProdP Q (Zkw X n) n:=Zu1 h.sQ (Zot h.sX (by decide)) hn (by decide)
theorem TrueP.one (h : TrueP Q b X x n) {i c : Nat} (hi : i < n) (hc : c < n) : Zjr Q (Zkw X n) i c n = if i = c then 1 else 0:=by
 rw [<- h.inv i c hi hc]
 exact Zx fun j hj=>by rw [show Zm (Zkw X n) j c = X j c from Zkq hj hc]
theorem TrueP.xy (h : TrueP Q b X x n) (i k : Nat) : SmN 93 93 (Zm Q i k * x k):=(h.sQ i k).mulN (h.sx k)
theorem TrueP.dot (h : TrueP Q b X x n) (hn : n <= 5) (i t : Nat) (ht : t <= n) : Sm (dotT Q x i t):=by
 have h1 : t * (93 + 1) <= 5 * 94:=Nat.mul_le_mul (by omega) (by omega);have h2 : t * 93 <= 5 * 93:=Nat.mul_le_mul (by omega) (by omega);exact (Znj (fun k=>h.xy i k) t).sm (by omega) (by omega)
end
theorem Zv4 {q : Rat} {k u : Nat} (h1 : q.num.natAbs <= pw k) (h2 : q.den <= pw k) (hk : k < u) : SmN u u q:=⟨Nat.lt_of_le_of_lt h1 (Zb6 hk),Nat.lt_of_le_of_lt h2 (Zb6 hk)⟩
theorem SmN.big {q : Rat} {u : Nat} (h : SmN u u q) (hu : u <= 4096) : q.num.natAbs < pw 4096 /\ q.den < pw 4096:=⟨Nat.lt_of_lt_of_le h.1 (Zbf hu),Nat.lt_of_lt_of_le h.2 (Zbf hu)⟩
theorem SmN.few2 {q : Rat} (h : SmN 90 90 q) : Few2 q:=⟨Nat.lt_of_lt_of_le h.1 (Zbf (by decide)),Nat.lt_of_lt_of_le h.2 (Zbf (by decide))⟩
theorem Zu2 (A B : Option Addr) (n c nb cb : Nat) (rs : List RX) (es : List FX) (w : World) (h : MXL w A n c rs) (hb : FXL w B nb cb es) :
    Calls Tryz.prog 7 #[.slice A n c,.slice B nb cb] w fun e w'=>e = .returned (.bool true) /\ Below w.heap.size w w':=by
 have hmx : Tryz.prog.follows .mixedOrders = true:=by kernel_rfl
 have hcm:=h.2.2.1;have hnc:=h.2.1;have hdm:=hb.2.2.1;have hdc:=hb.2.1;unfold maxLen at hcm hdm;replace h:=Za h;replace hb:=Za hb;go_enter Tryz.func7,Tryz.ntmps7;go_wp2_with fail;refine (Zvf w).mono ?_;rintro e w1 ⟨rfl,hb1⟩;go_wp2_with fail;refine (Zmg A n c rs w1 (h.out.below hb1)).mono ?_;rintro e w2 ⟨b0,rfl,hb2,hc⟩;have hB2:=hb1.trans (hb2.mono hb1.size);clear hb1 hb2
 cases b0 with
 | false =>
  clear hc;go_wp2_with fail;go_ret;exact ⟨rfl,hB2⟩
 | true =>
  obtain ⟨hct,hsq,hn4⟩:=hc rfl;clear hc;replace hct:=Za hct;replace hsq:=Za hsq
  by_cases hl : n = nb
  case neg =>
   have t1 : (((nb : Int)) != (n : Int)) = true:=by simp;omega
   have t1' : decide ((nb : Int) = (n : Int)) = false:=decide_eq_false (by omega);replace hl:=Za hl;go_wp2_with fail;go_ret;exact ⟨rfl,hB2⟩
  subst hl
  have t1 : (((n : Int)) != (n : Int)) = false:=by simp
  obtain ⟨g1,hg1⟩ : ∃ g,w2.heap.size = g:=⟨_,rfl⟩;obtain ⟨V1,hV1,qa,hbV1⟩:=Za2 (w:=w2) 40 #[.slice B n cb];rw [hg1] at qa;have hB3:=hB2.trans (hbV1.mono hB2.size);have hM1:=Za (MXL.one qa (hb.out.below hB3));clear qa hbV1 hB2;go_wp2_with fail;(try rw [hg1]);(try rw [hV1]);clear hV1;replace hg1:=Za hg1;refine (Zjs _ 1 1 _ V1 hM1.out).mono ?_;rintro e w3 ⟨b2,rfl,hb3,hc2⟩;have hB4:=hB3.trans (hb3.mono hB3.size);clear hM1 hb3 hB3
  cases b2 with
  | true =>
   clear hc2;go_wp2_with fail;go_ret;exact ⟨rfl,hB4⟩
  | false =>
   have hcb:=Za ((hc2 rfl).row (List.mem_singleton.2 rfl)).2;clear hc2;obtain ⟨g2,hg2⟩ : ∃ g,w3.heap.size = g:=⟨_,rfl⟩;obtain ⟨V2,hV2,qa,hbV2⟩:=Za2 (w:=w3) 40 #[.slice B n cb];rw [hg2] at qa;have hB5:=hB4.trans (hbV2.mono hB4.size);have hM2:=Za (MXL.one qa (hb.out.below hB5));obtain ⟨E2,hE2⟩ : ∃ E,Zd1 [⟨B,n,cb,es⟩] = E:=⟨_,rfl⟩;replace hE2:=Za hE2;clear qa hbV2 hB4;go_wp2_with fail;(try rw [hg2]);(try rw [hV2]);clear hV2;replace hg2:=Za hg2;refine (Zj1 _ 1 1 _ V2 hM2.out E2 hE2.out).mono ?_;rintro e w4 ⟨rfl,hb4⟩;have hB6:=hB5.trans (hb4.mono hB5.size);clear hM2 hb4 hB5
   by_cases hE0 : E2 = 0
   case neg =>
    have t2 : (E2 != 0) = true:=by simpa using hE0
    have t2' : decide (E2 = 0) = false:=decide_eq_false hE0;replace hE0:=Za hE0;go_wp2_with fail;go_ret;exact ⟨rfl,hB6⟩
   subst hE0;have hvec:=Zvx hE2.out;have hS:=Zo7 h.out hct.out.calm hsq.out;have hbs:=Zog hb.out hvec hcb.out;obtain ⟨hE1,hE1'⟩:=Zfg hsq.out;obtain ⟨f1,f2,f3,f4,f5⟩:=Zbm hE1;have hn0 : 0 < n:=hS.1
   have hn0R : n0R rs = n:=by have:=h.out.1;omega
   have hF0:=h.out.good hE1;have hQr:=Zji h.out hE1;rw [hn0R] at hQr;have hFb0 : FL w B n cb (es.map FX.q):=hb.out.fl (Zl4 hvec);obtain ⟨r1,r2,r3,r4⟩:=Zu7 hS;have KR:=Za (fun W (hW : Below w.heap.size w W)=>Zqr A n c rs W (h.out.below hW) hE1 (by rw [hn0R];exact r3) (by rw [hn0R];exact r4));rw [hn0R] at KR;obtain ⟨dd,hdd,P1⟩:=Zr0 0 (qM rs) n (fun _=>hS);obtain ⟨ES,ds,hds,P2⟩:=Zmo 0 true (qM rs) (es.map FX.q) n n (fun _=>hS) (fun _=>hbs);obtain ⟨EI,DI,hDI,P3⟩:=Zpg 0 (qM rs) n (fun _=>hS);have K1:=Za (fun (W : World) (hx : Below w.heap.size w W)=>P1 W A c rs (h.out.below hx) hsq.out rfl);have K3:=Za (fun (W : World) (hx : Below w.heap.size w W)=>P2 W A B c cb rs es (h.out.below hx) (hb.out.below hx) hsq.out rfl hvec rfl);have K5:=Za (fun (W : World) (hx : Below w.heap.size w W)=>P3 W A c rs (h.out.below hx) hsq.out rfl);have hdd':=hdd rfl;have hds':=hds rfl rfl rfl;have hDI':=hDI rfl
   have sQ : ∀ i j,SmN 3 3 (Zm (qM rs) i j):=fun i j=>hS.2.2.2.2.smN i j
   have u1 : (2 * (n + 1) + 2 + 1) * n <= 13 * 4:=Nat.mul_le_mul (by omega) (by omega);have u2 : (2 * (n + n) + 2 + 1) * n <= 19 * 4:=Nat.mul_le_mul (by omega) (by omega);have hl2:=h.out.1;obtain ⟨Q,hQ⟩ : ∃ Q,qM rs = Q:=⟨_,rfl⟩;obtain ⟨b,hbq⟩ : ∃ b,es.map FX.q = b:=⟨_,rfl⟩;obtain ⟨rk,hrk⟩ : ∃ r,Zia (qM rs) n = r:=⟨_,rfl⟩;rw [hrk] at KR r1 r2;rw [hQ] at hdd' hds' hDI' sQ hF0 hQr r2;rw [hbq] at hds' hFb0;replace hB6:=Za hB6;replace hF0:=Za hF0;replace hFb0:=Za hFb0;replace hQr:=Za hQr;clear hdd hds hDI P1 P2 P3 hS hbs hE1 hE1' f1 f2 f3 f4 f5 hvec hct hsq hcb hE2 h hb r3 r4 hn0R hQ hbq hrk hl2
   by_cases hD : Zac n (Zm Q) = 0
   ·have hrk2 : rk < n:=by
      rcases Nat.lt_or_ge rk n with h' | h'
      ·exact h'
      ·exact absurd hD (r2.1 (by omega))
    have t4 : decide ((rk : Int) < (n : Int)) = true:=decide_eq_true (by omega)
    obtain ⟨rfl,rfl⟩ : ES = 18 /\ ds = []:=by
     rcases hds' with h1 | h1
     ·exact h1.2
     ·exact absurd hD h1.1
    obtain ⟨rfl,rfl⟩ : EI = 18 /\ DI = []:=by
     rcases hDI' with h1 | h1
     ·exact h1.2
     ·exact absurd hD h1.1
    rw [hD] at hdd';subst hdd';clear hds' hDI' r2 hD sQ;go_wp2_with fail;refine (K1.out w4 hB6.out).mono ?_;rintro e w5 ⟨A1,n1,c1,B1,m1,d1,rfl,hb5,l1,l2⟩
    obtain rfl : n1 = 0:=by
     have h1:=l1.len;rw [show (dfQ 0).la = digits 0 from rfl,Zak] at h1;exact h1.symm
    obtain ⟨g3,hg3⟩ : ∃ g,w5.heap.size = g:=⟨_,rfl⟩;obtain ⟨V3,hV3,qd,hbV3⟩:=Za2 (w:=w5) 45 #[.bool (dfQ 0).na,.slice A1 0 c1,.bool (dfQ 0).nb,.slice B1 m1 d1];rw [hg3] at qd;have hB7:=hB6.out.trans ((hb5.trans (hbV3.mono hb5.size)).mono hB6.out.size);replace qd:=Za qd;clear l1 l2 K1 hb5 hbV3;go_wp2_with fail;(try rw [hg3]);(try rw [hV3]);clear hV3;replace hg3:=Za hg3;refine (KR.out V3 hB7).mono ?_;rintro e w6 ⟨rfl,hb6⟩;have hB8:=hB7.trans (hb6.mono hB7.size);replace qd:=Za (Zc hb6 qd.out);clear KR hb6 hB7;go_wp2_with fail;refine (K5.out w6 hB8).mono ?_;rintro e w7 ⟨A5,n5,c5,rfl,hb7,y1⟩;have hB9:=hB8.trans (hb7.mono hB8.size);replace qd:=Za (Zc hb7 qd.out);clear K5 hb7 hB8 y1;go_wp2_with fail;refine (K3.out w7 hB9).mono ?_;rintro e w8 ⟨A6,n6,c6,rfl,hb8,y2⟩;have hB10:=hB9.trans (hb8.mono hB9.size);obtain ⟨q0,q1,q2,q3,-⟩:=(Zc hb8 qd.out).four;clear K3 hb8 hB9 y2 qd;go_wp2_with fail;go_ret;exact ⟨rfl,hB10⟩
   ·obtain rfl : rk = n:=r2.2 hD
    have t4 : ((rk : Int) != (rk : Int)) = false:=by simp
    obtain ⟨x,rfl,rfl,hx1,hx2⟩ : ∃ x : Nat -> Rat,ES = 0 /\ ds = ((List.range rk).map x).map dfQ /\ (∀ i,i < rk -> sumQ rk (fun j=>Zm Q i j * x j) = b[i]?.getD 0) /\ ∀ i,SmN 90 90 (x i):=by
     rcases hds' with h1 | ⟨-,h2,X,h3,h4,h5⟩
     ·exact absurd h1.1 hD
     ·exact ⟨X,h2,h3,h4,fun i=>Zv4 (h5 i).1 (h5 i).2 (by omega)⟩
    obtain ⟨X,rfl,rfl,hX1,hX2⟩ : ∃ X : Nat -> Nat -> Rat,EI = 0 /\ DI = (Zkw X rk).map (fun r=>r.map dfQ) /\ (∀ i c,i < rk -> c < rk -> sumQ rk (fun j=>Zm Q i j * X j c) = if i = c then 1 else 0) /\ ∀ i j,SmN 90 90 (X i j):=by
     rcases hDI' with h1 | ⟨-,h2,X,h3,h4,h5⟩
     ·exact absurd h1.1 hD
     ·exact ⟨X,h2,h3,h4,fun i j=>Zv4 (h5 i j).1 (h5 i j).2 (by omega)⟩
    have hT : TrueP Q b X x rk:=⟨hX1,hx1,hX2,hx2,sQ⟩;replace hT:=Za hT;subst hdd'
    have hnum : 0 < (dfQ (Zac rk (Zm Q))).la.length:=by
     show 0 < (digits _).length;rw [length_digits_pos]
     have : (Zac rk (Zm Q)).num ≠ 0:=fun h0=>hD (Rat.num_eq_zero.1 h0)
     omega
    replace hnum:=Za hnum;clear hds' hDI' r2 hD sQ hx1 hx2 hX1 hX2;go_wp2_with fail;refine (K1.out w4 hB6.out).mono ?_;rintro e w5 ⟨A1,n1,c1,B1,m1,d1,rfl,hb5,l1,l2⟩
    have hn1 : 0 < n1:=by have:=l1.len;have:=hnum.out;omega
    have hn1m : n1 <= maxLen:=Nat.le_trans l1.2.1 l1.2.2.1;unfold maxLen at hn1m
    have t5 : ((n1 : Int) == 0) = false:=by simp;omega
    have t5' : decide ((n1 : Int) = 0) = false:=decide_eq_false (by omega);obtain ⟨dna,hdna⟩ : ∃ x,(dfQ (Zac rk (Zm Q))).na = x:=⟨_,rfl⟩;obtain ⟨dnb,hdnb⟩ : ∃ x,(dfQ (Zac rk (Zm Q))).nb = x:=⟨_,rfl⟩;rw [hdna,hdnb];obtain ⟨g3,hg3⟩ : ∃ g,w5.heap.size = g:=⟨_,rfl⟩;obtain ⟨V3,hV3,qd,hbV3⟩:=Za2 (w:=w5) 45 #[.bool dna,.slice A1 n1 c1,.bool dnb,.slice B1 m1 d1];rw [hg3] at qd;have hB7:=hB6.out.trans ((hb5.trans (hbV3.mono hb5.size)).mono hB6.out.size);replace qd:=Za qd;replace hn1:=Za hn1;clear l1 l2 K1 hb5 hbV3 hdna hdnb hnum;go_wp2_with fail;(try rw [hg3]);(try rw [hV3]);clear hV3;replace hg3:=Za hg3;refine (KR.out V3 hB7).mono ?_;rintro e w6 ⟨rfl,hb6⟩;have hB8:=hB7.trans (hb6.mono hB7.size);replace qd:=Za (Zc hb6 qd.out);clear KR hb6 hB7;go_wp2_with fail;refine (K5.out w6 hB8).mono ?_;rintro e w7 ⟨A5,n5,c5,rfl,hb7,y1⟩;have hB9:=hB8.trans (hb7.mono hB8.size);replace qd:=Za (Zc hb7 qd.out)
    have hV7:=y1.mfl (fun r hr q hq=>by
     obtain ⟨i,hi,rfl⟩:=List.mem_map.1 hr;obtain ⟨c,hc,rfl⟩:=List.mem_map.1 hq
     exact (hT.out.sX i c).big (by decide))
    obtain rfl : rk = n5:=by rw [<- hV7.1];unfold Zkw;simp
    replace hV7:=Za hV7;clear K5 hb7 hB8 y1;go_wp2_with fail;refine (K3.out w7 hB9).mono ?_;rintro e w8 ⟨A6,n6,c6,rfl,hb8,y2⟩;have hB10:=hB9.trans (hb8.mono hB9.size)
    have hX8:=y2.fl (fun q hq=>by
     obtain ⟨i,hi,rfl⟩:=List.mem_map.1 hq
     exact (hT.out.sx i).big (by decide))
    obtain rfl : rk = n6:=by rw [<- hX8.len];simp
    replace hX8:=Za hX8;replace hV7:=Za (hV7.out.below hb8);obtain ⟨q0,q1,q2,q3,-⟩:=(Zc hb8 qd.out).four;have hxc:=hX8.out.cap;unfold maxLen at hxc;have hxc1:=hxc.1;have hxc2:=hxc.2;replace hB10:=Za hB10;clear K3 hb8 hB9 y2 qd hxc hB6;go_wp2_with fail
    refine (Ztr A5 rk c5 (Zkw X rk) w8 hV7.out (by omega) (fun i hi=>by
     unfold Zkw
     rw [List.getElem?_map,List.getElem?_range hi];simp) (fun i j hi hj=>by
     rw [show Zm (Zkw X rk) i j = X i j from Zkq hi hj]
     exact (hT.out.sX i j).few2)).mono ?_
    rintro e w9 ⟨rfl,hb9⟩;have hB11:=Za (hB10.out.trans (hb9.mono hB10.out.size));replace hX8:=Za (hX8.out.below hb9);replace hV7:=Za (hV7.out.below hb9);clear q0 q1 q2 q3 hb9 hB10;go_wp2_with fail
    refine (Zrc A A5 rk c rk c5 rk Q (Zkw X rk) w9 (hF0.out.below hB11.out) hV7.out (by omega) (by omega) (by omega) hn0 hQr.out (fun i hi=>by
     unfold Zkw
     rw [List.getElem?_map,List.getElem?_range hi];simp) (hT.out.prod (by omega))).mono ?_
    rintro e w10 ⟨v10,L,rfl,hb10,hMO⟩
    have hLl : L.length = rk:=by rw [hMO.2.1,Zje]
    obtain ⟨go,cap,rfl,hc1,hc2,hM3⟩:=hMO.mat (fun e=>by rw [e] at hLl;simp at hLl;omega);have hMF:=hM3.mfl hc1 hc2;rw [hLl] at hMF ⊢;have hB12:=Za (hB11.out.trans (hb10.mono hB11.out.size));replace hMF:=Za hMF;replace hX8:=Za (hX8.out.below hb10);unfold maxLen at hc2;rw [hLl] at hc1;clear hMO hM3 hLl hb10 hV7 hB11;go_wp2_with fail
    go_loopg [15] rk (fun k iv wr=>∃ i : Nat,i + k = rk /\ iv = .int .i64 i /\ Below w10.heap.size w10 wr)
    case atStart=>exact ⟨0,by omega,rfl,Below.refl _ _⟩
    case round =>
     obtain ⟨i,hik,rfl,hBi⟩:=hrel
     cases gk with
     | succ k' =>
      obtain rfl : k' = rk - (i + 1):=by omega
      have hin : i < rk:=by omega
      have t6 : decide ((i : Int) < (rk : Int)) = true:=decide_eq_true (by omega)
      have bi : (i : Int) < (rk : Int):=by omega
      go_wp2_with fail;obtain ⟨wo,rfl⟩ : ∃ wo : World,wo = wr:=⟨_,rfl⟩
      go_loopg [16] rk (fun k jv wr=>∃ j : Nat,j + k = rk /\ jv = .int .i64 j /\ Below w10.heap.size w10 wr)
      case atStart=>exact ⟨0,by omega,rfl,hBi⟩
      case round =>
       clear hBi;obtain ⟨j,hjk,rfl,hBj⟩:=hrel
       cases gk with
       | zero =>
        obtain rfl : j = rk:=by omega
        have t7 : decide ((j : Int) < (j : Int)) = false:=by simp
        go_wp2_with fail
        go_roundg (j - (i + 1))
        case measure=>omega
        case rel=>exact ⟨i + 1,by omega,by go_num,hBj⟩
       | succ k2 =>
        obtain rfl : k2 = rk - (j + 1):=by omega
        have hjn : j < rk:=by omega
        have t7 : decide ((j : Int) < (rk : Int)) = true:=decide_eq_true (by omega)
        have bj : (j : Int) < (rk : Int):=by omega
        obtain ⟨gm,om,A7,n7,c7,e7,k0,hF7⟩:=(hMF.out.below hBj).at_ hin
        obtain ⟨rfl,rfl⟩ : go = gm /\ 0 = om:=by cases e7;exact ⟨rfl,rfl⟩
        rw [Zt1 hin] at hF7;have hl7:=hF7.len;rw [Zhd] at hl7;subst hl7;obtain ⟨gx,ox,xn,xA,xk,xc,xm,xB,xj,xd,rfl,hX4,hfx⟩:=hF7.at_ hjn;obtain ⟨x0,x1,x2,x3⟩:=hX4
        have hval : (Ze1 Q (Zkw X rk) rk rk i)[j]?.getD 0 = if i = j then 1 else 0:=by
         unfold Ze1;rw [List.getElem?_map,List.getElem?_range hjn];exact hT.out.one hin hjn
        rw [hval] at hfx;have hc7:=hF7.cap.2;unfold maxLen at hc7;rw [Nat.zero_add] at k0;obtain ⟨a1,a2,l1,l2⟩:=hfx.df;replace l1:=Za l1;replace l2:=Za l2;clear hF7 hval hfx e7
        by_cases hij : i = j
        ·rw [if_pos hij] at a1 a2 l1 l2
         subst a1 a2;have t8 : decide ((i : Int) = (j : Int)) = true:=decide_eq_true (by omega)
         have t8' : ((i : Int) == (j : Int)) = true:=by simp;omega
         replace hij:=Za hij;go_wp2_with fail;refine Zaj [] (fun wx=>wx.cell? ⟨go,i,none⟩ = some (.slice (some ⟨gx,ox,none⟩) rk c7) /\ wx.cell? ⟨gx,ox + j * 4,none⟩ = some (.bool (dfQ 1).na) /\ wx.cell? ⟨gx,ox + j * 4 + 1,none⟩ = some (.slice xA xk xc) /\ wx.cell? ⟨gx,ox + j * 4 + 2,none⟩ = some (.bool (dfQ 1).nb) /\ wx.cell? ⟨gx,ox + j * 4 + 3,none⟩ = some (.slice xB xj xd)) hmx ⟨k0,x0,x1,x2,x3⟩ (fun _=>?_);refine Zfk 3 [0,1,2] rfl (by kernel_rfl) ⟨k0,x0,x1,x2,x3⟩ ?_
         iterate 3 (refine tk1 (v:=?_) rfl (Or.inl ⟨by kernel_rfl,?_⟩) ?_;rotate_left;(· intro W2 _;go_simp;try with_reducible rfl);try simp only [Act.put,Zfi,Zfz,Zft,putG_a,putG_s,putG_z])
         refine tk0 ?_;refine Zit 1 [3] rfl (by kernel_rfl) ⟨k0,x0,x1,x2,x3⟩ ?_
         (refine tk1 (v:=?_) rfl (Or.inl ⟨by kernel_rfl,?_⟩) ?_;rotate_left;(· intro W2 hSw;(try dsimp only at hSw);go_simp;try with_reducible rfl);try simp only [Act.put,Zfi,Zfz,Zft,putG_a,putG_s,putG_z])
         refine tk0 ?_;refine Zfk 2 [4,5] rfl (by kernel_rfl) ⟨k0,x0,x1,x2,x3⟩ ?_
         iterate 2 (refine tk1 (v:=?_) rfl (Or.inl ⟨by kernel_rfl,?_⟩) ?_;rotate_left;(· intro W2 _;go_simp;try with_reducible rfl);try simp only [Act.put,Zfi,Zfz,Zft,putG_a,putG_s,putG_z])
         refine tk0 ?_;refine Zit 1 [6] rfl (by kernel_rfl) ⟨k0,x0,x1,x2,x3⟩ ?_
         (refine tk1 (v:=?_) rfl (Or.inl ⟨by kernel_rfl,?_⟩) ?_;rotate_left;(· intro W2 hSw;(try dsimp only at hSw);go_simp;try with_reducible rfl);try simp only [Act.put,Zfi,Zfz,Zft,putG_a,putG_s,putG_z])
         refine tk0 ?_;refine Zfk 1 [7] rfl (by kernel_rfl) ⟨k0,x0,x1,x2,x3⟩ ?_
         (refine tk1 (v:=?_) rfl (Or.inl ⟨by kernel_rfl,?_⟩) ?_;rotate_left;(· intro W2 _;go_simp;try with_reducible rfl);try simp only [Act.put,Zfi,Zfz,Zft,putG_a,putG_s,putG_z])
         refine tk0 ?_;refine Ze (i:=8) rfl (by kernel_rfl) (fun K hK=>?_);go_simp;refine (Zdc 1 1 wr.drew (by decide) (by decide) (by decide) (by decide)).mono ?_;rintro e y1 ⟨hy1,pn,pA,pk,pc,pm,pB,pj,pd,rfl,hp⟩;rw [Zca] at hp;replace hy1:=Zr hy1;obtain ⟨e1,e2,m1',m2⟩:=hp.df;replace l1:=Za (l1.out.below hy1);replace l2:=Za (l2.out.below hy1);replace k0:=Zb hy1 k0;replace x0:=Zb hy1 x0;replace x1:=Zb hy1 x1;replace x2:=Zb hy1 x2;replace x3:=Zb hy1 x3;refine hK.out _ _ (fun _=>⟨k0,x0,x1,x2,x3⟩) ?_;clear hK K
         try simp only [Act.put,Zfi,Zfz,Zft]
         rw [show ((1 : Int) : Rat) = 1 from rfl] at e1 e2 m1' m2;subst e1 e2;refine Ze (i:=9) rfl (by kernel_rfl) (fun K hK=>?_);go_simp;refine (Zdp (dfQ 1).na (dfQ 1).nb xA xB pA pB xk xc xj xd pk pc pj pd _ _ y1 l1.out l2.out m1' m2).mono ?_;rintro e y2 ⟨rfl,hy2⟩;replace k0:=Zb hy2 k0;replace x0:=Zb hy2 x0;replace x1:=Zb hy2 x1;replace x2:=Zb hy2 x2;replace x3:=Zb hy2 x3;refine hK.out _ _ (fun _=>⟨k0,x0,x1,x2,x3⟩) ?_;clear hK K
         try simp only [Act.put,Zfi,Zfz,Zft]
         refine Zfk 1 [10] rfl (by kernel_rfl) ⟨k0,x0,x1,x2,x3⟩ ?_
         (refine tk1 (v:=?_) rfl (Or.inl ⟨by kernel_rfl,?_⟩) ?_;rotate_left;(· intro W2 _;go_simp;try with_reducible rfl);try simp only [Act.put,Zfi,Zfz,Zft,putG_a,putG_s,putG_z])
         refine tk0 ?_;refine Zk (by kernel_rfl) ?_ _;refine OnlyNormal.normal ?_;have hBn:=Za (hBj.trans ((hy1.trans (hy2.mono hy1.size)).mono hBj.size));clear k0 x0 x1 x2 x3 l1 l2 m1' m2 hp hy1 hy2;go_wp2_with fail
         go_roundg (rk - (j + 1))
         case measure=>omega
         case rel=>exact ⟨j + 1,by omega,by go_num,hBn.out⟩
        ·rw [if_neg hij] at a1 a2 l1 l2
         subst a1 a2;have t8 : decide ((i : Int) = (j : Int)) = false:=decide_eq_false (by omega)
         have t8' : ((i : Int) == (j : Int)) = false:=by simp;omega
         replace hij:=Za hij;go_wp2_with fail;refine Zaj [] (fun wx=>wx.cell? ⟨go,i,none⟩ = some (.slice (some ⟨gx,ox,none⟩) rk c7) /\ wx.cell? ⟨gx,ox + j * 4,none⟩ = some (.bool (dfQ 0).na) /\ wx.cell? ⟨gx,ox + j * 4 + 1,none⟩ = some (.slice xA xk xc) /\ wx.cell? ⟨gx,ox + j * 4 + 2,none⟩ = some (.bool (dfQ 0).nb) /\ wx.cell? ⟨gx,ox + j * 4 + 3,none⟩ = some (.slice xB xj xd)) hmx ⟨k0,x0,x1,x2,x3⟩ (fun _=>?_);refine Zfk 3 [0,1,2] rfl (by kernel_rfl) ⟨k0,x0,x1,x2,x3⟩ ?_
         iterate 3 (refine tk1 (v:=?_) rfl (Or.inl ⟨by kernel_rfl,?_⟩) ?_;rotate_left;(· intro W2 _;go_simp;try with_reducible rfl);try simp only [Act.put,Zfi,Zfz,Zft,putG_a,putG_s,putG_z])
         refine tk0 ?_;refine Zit 1 [3] rfl (by kernel_rfl) ⟨k0,x0,x1,x2,x3⟩ ?_
         (refine tk1 (v:=?_) rfl (Or.inl ⟨by kernel_rfl,?_⟩) ?_;rotate_left;(· intro W2 hSw;(try dsimp only at hSw);go_simp;try with_reducible rfl);try simp only [Act.put,Zfi,Zfz,Zft,putG_a,putG_s,putG_z])
         refine tk0 ?_;refine Zfk 2 [4,5] rfl (by kernel_rfl) ⟨k0,x0,x1,x2,x3⟩ ?_
         iterate 2 (refine tk1 (v:=?_) rfl (Or.inl ⟨by kernel_rfl,?_⟩) ?_;rotate_left;(· intro W2 _;go_simp;try with_reducible rfl);try simp only [Act.put,Zfi,Zfz,Zft,putG_a,putG_s,putG_z])
         refine tk0 ?_;refine Zit 1 [6] rfl (by kernel_rfl) ⟨k0,x0,x1,x2,x3⟩ ?_
         (refine tk1 (v:=?_) rfl (Or.inl ⟨by kernel_rfl,?_⟩) ?_;rotate_left;(· intro W2 hSw;(try dsimp only at hSw);go_simp;try with_reducible rfl);try simp only [Act.put,Zfi,Zfz,Zft,putG_a,putG_s,putG_z])
         refine tk0 ?_;refine Zfk 1 [7] rfl (by kernel_rfl) ⟨k0,x0,x1,x2,x3⟩ ?_
         (refine tk1 (v:=?_) rfl (Or.inl ⟨by kernel_rfl,?_⟩) ?_;rotate_left;(· intro W2 _;go_simp;try with_reducible rfl);try simp only [Act.put,Zfi,Zfz,Zft,putG_a,putG_s,putG_z])
         refine tk0 ?_;refine Ze (i:=8) rfl (by kernel_rfl) (fun K hK=>?_);go_simp;refine (Zdc 0 1 wr.drew (by decide) (by decide) (by decide) (by decide)).mono ?_;rintro e y1 ⟨hy1,pn,pA,pk,pc,pm,pB,pj,pd,rfl,hp⟩;rw [Zca] at hp;replace hy1:=Zr hy1;obtain ⟨e1,e2,m1',m2⟩:=hp.df;replace l1:=Za (l1.out.below hy1);replace l2:=Za (l2.out.below hy1);replace k0:=Zb hy1 k0;replace x0:=Zb hy1 x0;replace x1:=Zb hy1 x1;replace x2:=Zb hy1 x2;replace x3:=Zb hy1 x3;refine hK.out _ _ (fun _=>⟨k0,x0,x1,x2,x3⟩) ?_;clear hK K
         try simp only [Act.put,Zfi,Zfz,Zft]
         rw [show ((0 : Int) : Rat) = 0 from rfl] at e1 e2 m1' m2;subst e1 e2;refine Ze (i:=9) rfl (by kernel_rfl) (fun K hK=>?_);go_simp;refine (Zdp (dfQ 0).na (dfQ 0).nb xA xB pA pB xk xc xj xd pk pc pj pd _ _ y1 l1.out l2.out m1' m2).mono ?_;rintro e y2 ⟨rfl,hy2⟩;replace k0:=Zb hy2 k0;replace x0:=Zb hy2 x0;replace x1:=Zb hy2 x1;replace x2:=Zb hy2 x2;replace x3:=Zb hy2 x3;refine hK.out _ _ (fun _=>⟨k0,x0,x1,x2,x3⟩) ?_;clear hK K
         try simp only [Act.put,Zfi,Zfz,Zft]
         refine Zfk 1 [10] rfl (by kernel_rfl) ⟨k0,x0,x1,x2,x3⟩ ?_
         (refine tk1 (v:=?_) rfl (Or.inl ⟨by kernel_rfl,?_⟩) ?_;rotate_left;(· intro W2 _;go_simp;try with_reducible rfl);try simp only [Act.put,Zfi,Zfz,Zft,putG_a,putG_s,putG_z])
         refine tk0 ?_;refine Zk (by kernel_rfl) ?_ _;refine OnlyNormal.normal ?_;have hBn:=Za (hBj.trans ((hy1.trans (hy2.mono hy1.size)).mono hBj.size));clear k0 x0 x1 x2 x3 l1 l2 m1' m2 hp hy1 hy2;go_wp2_with fail
         go_roundg (rk - (j + 1))
         case measure=>omega
         case rel=>exact ⟨j + 1,by omega,by go_num,hBn.out⟩
     | zero =>
      obtain rfl : i = rk:=by omega
      have t6 : decide ((i : Int) < (i : Int)) = false:=by simp
      obtain ⟨wa,hwa⟩ : ∃ x : World,x = wr:=⟨_,rfl⟩;subst hwa;have hBa:=Za (hB12.out.trans (hBi.mono hB12.out.size));replace hX8:=Za (hX8.out.below hBi);clear hMF hBi hB12;go_wp2_with fail
      go_loopg [18] i (fun k jv wr=>∃ j : Nat,j + k = i /\ jv = .int .i64 j /\ Below wa.heap.size wa wr)
      case atStart=>exact ⟨0,by omega,rfl,Below.refl _ _⟩
      case round =>
       obtain ⟨j,hjk,rfl,hBj⟩:=hrel
       cases gk with
       | succ k2 =>
        obtain rfl : k2 = i - (j + 1):=by omega
        have hjn : j < i:=by omega
        have t7 : decide ((j : Int) < (i : Int)) = true:=decide_eq_true (by omega)
        have bj : (j : Int) < (i : Int):=by omega
        obtain ⟨gx,ox,xn,xA,xk,xc,xm,xB,xj,xd,rfl,hX4,hfx⟩:=(hX8.out.below hBj).at_ hjn;obtain ⟨x0,x1,x2,x3⟩:=hX4
        have hval : ((List.range i).map x)[j]?.getD 0 = x j:=by rw [List.getElem?_map,List.getElem?_range hjn];rfl
        rw [hval] at hfx;have hsx:=(hT.out.sx j).few2;have hfew : max xk xj <= 200:=hfx.few hsx.1 hsx.2;obtain ⟨l1,l2,l3,l4⟩:=hfx.lims;have hok:=hfx.raw.1;have t8 : decide ((200 : Int) < ((max xk xj : Nat) : Int)) = false:=decide_eq_false (by omega);have t8' : decide (200 < max xk xj) = false:=decide_eq_false (by omega);replace l1:=Za l1;replace l2:=Za l2;replace hok:=Za hok;clear hfx hval hsx;go_wp2_with fail;refine (Zgg xn xm xA xB xk xc xj xd _ _ wr l1.out l2.out true hok.out).mono ?_;rintro e y1 ⟨rfl,hy1⟩;have z0:=Zb hy1 x0;have z1:=Zb hy1 x1;have z2:=Zb hy1 x2;have z3:=Zb hy1 x3;simp only [Zes];clear x0 x1 x2 x3 hok l1 l2;go_wp2_with fail;refine (Znr xn xm xA xB xk xc xj xd y1 l3 l4).mono ?_;rintro e y2 ⟨rfl,hy2⟩;have hB3:=hBj.trans ((hy1.trans (hy2.mono hy1.size)).mono hBj.size);clear z0 z1 z2 z3;go_wp2_with fail
        go_roundg (i - (j + 1))
        case measure=>omega
        case rel=>exact ⟨j + 1,by omega,by go_num,hB3⟩
       | zero =>
        obtain rfl : j = i:=by omega
        have t7 : decide ((j : Int) < (j : Int)) = false:=by simp
        have hBz:=Za (hBa.out.trans (hBj.mono hBa.out.size));replace hX8:=Za (hX8.out.below hBj);obtain ⟨wz,hwz⟩ : ∃ x : World,x = wr:=⟨_,rfl⟩;subst hwz;clear hBa hBj;go_wp2_with fail
        go_loopg [19] j (fun k iv wr=>∃ i : Nat,i + k = j /\ iv = .int .i64 i /\ Below wz.heap.size wz wr)
        case atStart=>exact ⟨0,by omega,rfl,Below.refl _ _⟩
        case round =>
         obtain ⟨i,hik2,rfl,hBi⟩:=hrel;have hBw:=hBz.out.trans (hBi.mono hBz.out.size)
         cases gk with
         | zero =>
          obtain rfl : j = i:=by omega
          have t8 : decide ((j : Int) < (j : Int)) = false:=by simp
          go_wp2_with fail;go_ret;exact ⟨rfl,hBw⟩
         | succ k' =>
          obtain rfl : k' = j - (i + 1):=by omega
          have hin : i < j:=by omega
          have t8 : decide ((i : Int) < (j : Int)) = true:=decide_eq_true (by omega)
          have bi : (i : Int) < (j : Int):=by omega
          go_wp2_with fail;refine (Zdc 0 1 wr (by decide) (by decide) (by decide) (by decide)).mono ?_;rintro e w11 ⟨hb11,an,aA,ak,ac,am,aB,aj,ad,rfl,hf⟩;rw [Zca] at hf;obtain ⟨gs,hgs⟩ : ∃ g,w11.heap.size = g:=⟨_,rfl⟩;obtain ⟨V4,hV4,qs,hbV4⟩:=Za2 (w:=w11) 45 #[.bool an,.slice aA ak ac,.bool am,.slice aB aj ad];rw [hgs] at qs;have hv4 : VarF V4 gs (dotT Q x i 0):=⟨_,_,_,_,_,_,_,_,qs,hf.below hbV4⟩;have hbx4 : Below wr.heap.size wr V4:=hb11.trans (hbV4.mono hb11.size)
          have hgs2 : wr.heap.size <= gs:=by rw [<- hgs];exact hb11.size
          replace hv4:=Za hv4;replace hbx4:=Za hbx4;clear hf qs hb11 hbV4;go_wp2_with fail;(try rw [hgs]);(try rw [hV4]);clear hV4 hgs;obtain ⟨wi,rfl⟩ : ∃ wi : World,wi = wr:=⟨_,rfl⟩
          go_loopg [21] j (fun k tv wr=>∃ t : Nat,t + k = j /\ tv = .int .i64 t /\ VarF wr gs (dotT Q x i t) /\ Kept (fun g=>g = gs) V4 wr)
          case atStart=>exact ⟨0,by omega,rfl,hv4.out,Kept.refl _ _⟩
          case round =>
           obtain ⟨t,htk,rfl,hvt,hKt⟩:=hrel;have hbq : Below wi.heap.size wi wr:=hbx4.out.trans (hKt.to_below (fun k e=>by omega) hbx4.out.size);have hBq:=hBw.trans (hbq.mono hBw.size);obtain ⟨sn,sA,sk,sc,sm,sB,sj,sd,qs,hfs⟩:=hvt
           cases gk with
           | zero =>
            obtain rfl : t = j:=by omega
            have t9 : decide ((t : Int) < (t : Int)) = false:=by simp
            obtain ⟨s0,s1,s2,s3,-⟩:=qs.four;obtain ⟨gy,oy,yn,yA,yk,yc,ym,yB,yj,yd,rfl,hY4,hfy⟩:=(hFb0.out.below hBq).at_ hin;obtain ⟨y0,y1,y2,y3⟩:=hY4;rw [<- hT.out.sol i hin] at hfy;obtain ⟨a1,a2,l1,l2⟩:=hfs.df;obtain ⟨a3,a4,l3,l4⟩:=hfy.df
            obtain rfl : sn = yn:=by rw [a1,a3];rfl
            obtain rfl : sm = ym:=by rw [a2,a4];rfl
            replace l1:=Za l1;replace l2:=Za l2;replace l3:=Za l3;replace l4:=Za l4;clear hfs hfy a1 a2 a3 a4 hKt hv4 hbx4 qs;go_wp2_with fail;refine Zaj [] (fun wx=>wx.cell? ⟨gs,0,none⟩ = some (.bool sn) /\ wx.cell? ⟨gs,1,none⟩ = some (.slice sA sk sc) /\ wx.cell? ⟨gs,2,none⟩ = some (.bool sm) /\ wx.cell? ⟨gs,3,none⟩ = some (.slice sB sj sd) /\ wx.cell? ⟨gy,oy + i * 4,none⟩ = some (.bool sn) /\ wx.cell? ⟨gy,oy + i * 4 + 1,none⟩ = some (.slice yA yk yc) /\ wx.cell? ⟨gy,oy + i * 4 + 2,none⟩ = some (.bool sm) /\ wx.cell? ⟨gy,oy + i * 4 + 3,none⟩ = some (.slice yB yj yd)) hmx ⟨s0,s1,s2,s3,y0,y1,y2,y3⟩ (fun _=>?_);refine Zit 1 [0] rfl (by kernel_rfl) ⟨s0,s1,s2,s3,y0,y1,y2,y3⟩ ?_
            (refine tk1 (v:=?_) rfl (Or.inl ⟨by kernel_rfl,?_⟩) ?_;rotate_left;(· intro W2 hSw;(try dsimp only at hSw);go_simp;try with_reducible rfl);try simp only [Act.put,Zfi,Zfz,Zft,putG_a,putG_s,putG_z])
            refine tk0 ?_;refine Zfk 3 [1,2,3] rfl (by kernel_rfl) ⟨s0,s1,s2,s3,y0,y1,y2,y3⟩ ?_
            iterate 3 (refine tk1 (v:=?_) rfl (Or.inl ⟨by kernel_rfl,?_⟩) ?_;rotate_left;(· intro W2 _;go_simp;try with_reducible rfl);try simp only [Act.put,Zfi,Zfz,Zft,putG_a,putG_s,putG_z])
            refine tk0 ?_;refine Zit 1 [4] rfl (by kernel_rfl) ⟨s0,s1,s2,s3,y0,y1,y2,y3⟩ ?_
            (refine tk1 (v:=?_) rfl (Or.inl ⟨by kernel_rfl,?_⟩) ?_;rotate_left;(· intro W2 hSw;(try dsimp only at hSw);go_simp;try with_reducible rfl);try simp only [Act.put,Zfi,Zfz,Zft,putG_a,putG_s,putG_z])
            refine tk0 ?_;refine Ze (i:=5) rfl (by kernel_rfl) (fun K hK=>?_);go_simp;refine (Zdp sn sm sA sB yA yB sk sc sj sd yk yc yj yd _ _ wr.drew l1.out l2.out l3.out l4.out).mono ?_;rintro e z2 ⟨rfl,hz2⟩;replace hz2:=Zr hz2;replace s0:=Zb hz2 s0;replace s1:=Zb hz2 s1;replace s2:=Zb hz2 s2;replace s3:=Zb hz2 s3;replace y0:=Zb hz2 y0;replace y1:=Zb hz2 y1;replace y2:=Zb hz2 y2;replace y3:=Zb hz2 y3;refine hK.out _ _ (fun _=>⟨s0,s1,s2,s3,y0,y1,y2,y3⟩) ?_;clear hK K
            try simp only [Act.put,Zfi,Zfz,Zft]
            refine Zfk 1 [6] rfl (by kernel_rfl) ⟨s0,s1,s2,s3,y0,y1,y2,y3⟩ ?_
            (refine tk1 (v:=?_) rfl (Or.inl ⟨by kernel_rfl,?_⟩) ?_;rotate_left;(· intro W2 _;go_simp;try with_reducible rfl);try simp only [Act.put,Zfi,Zfz,Zft,putG_a,putG_s,putG_z])
            refine tk0 ?_;refine Zk (by kernel_rfl) ?_ _;refine OnlyNormal.normal ?_;have hBn:=Za (hBi.trans ((hbq.trans (hz2.mono hbq.size)).mono hBi.size));clear s0 s1 s2 s3 y0 y1 y2 y3 l1 l2 l3 l4 hz2 hBq hbq;go_wp2_with fail
            go_roundg (t - (i + 1))
            case measure=>omega
            case rel=>exact ⟨i + 1,by omega,by go_num,hBn.out⟩
           | succ k3 =>
            obtain rfl : k3 = j - (t + 1):=by omega
            have htj : t < j:=by omega
            have t9 : decide ((t : Int) < (j : Int)) = true:=decide_eq_true (by omega)
            have bt : (t : Int) < (j : Int):=by omega
            obtain ⟨gA,oA,A1',n1',c1',rfl,k1,hF1⟩:=(hF0.out.below hBq).at_ hin;have hl1:=hF1.len;rw [hQr.out i hin] at hl1;subst hl1;obtain ⟨gx,ox,xn,xA,xk,xc,xm,xB,xj,xd,rfl,hX4,hfx⟩:=hF1.at_ htj;obtain ⟨x0,x1,x2,x3⟩:=hX4;obtain ⟨gy,oy,yn,yA,yk,yc,ym,yB,yj,yd,e8,hY4,hfy⟩:=((hX8.out.below hBi).below hbq).at_ htj;subst e8;obtain ⟨y0,y1,y2,y3⟩:=hY4
            have hval : ((List.range j).map x)[t]?.getD 0 = x t:=by rw [List.getElem?_map,List.getElem?_range htj];rfl
            rw [hval] at hfy;have hc1':=hF1.cap.2;unfold maxLen at hc1';have sx1 : Sm ((Q[i]?.getD [])[t]?.getD 0):=(hT.out.sQ i t).sm (by decide) (by decide);have sy1 : Sm (x t):=(hT.out.sx t).sm (by decide) (by decide);have sxy : Hid (Sm ((Q[i]?.getD [])[t]?.getD 0 * x t)):=Za ((hT.out.xy i t).sm (by decide) (by decide));replace qs:=Za qs;replace hfs:=Za hfs;replace hKt:=Za hKt;clear hF1 hval hbx4 hv4 hBq;go_wp2_with fail;have hSv1 : Hid (∀ wx,Below wr.heap.size wr wx -> wx.cell? ⟨gA,oA + i,none⟩ = some (.slice (some ⟨gx,ox,none⟩) j c1') /\ wx.cell? ⟨gx,ox + t * 4,none⟩ = some (.bool xn) /\ wx.cell? ⟨gx,ox + t * 4 + 1,none⟩ = some (.slice xA xk xc) /\ wx.cell? ⟨gx,ox + t * 4 + 2,none⟩ = some (.bool xm) /\ wx.cell? ⟨gx,ox + t * 4 + 3,none⟩ = some (.slice xB xj xd) /\ wx.cell? ⟨gy,oy + t * 4,none⟩ = some (.bool yn) /\ wx.cell? ⟨gy,oy + t * 4 + 1,none⟩ = some (.slice yA yk yc) /\ wx.cell? ⟨gy,oy + t * 4 + 2,none⟩ = some (.bool ym) /\ wx.cell? ⟨gy,oy + t * 4 + 3,none⟩ = some (.slice yB yj yd)):=Za (fun wx hbx=>⟨Zb hbx k1,Zb hbx x0,Zb hbx x1,Zb hbx x2,Zb hbx x3,Zb hbx y0,Zb hbx y1,Zb hbx y2,Zb hbx y3⟩);have hr1 : Below wr.heap.size wr wr.drew:=Zf (Below.refl _ _) 1;refine wp_heldS [] hmx hSv1 hr1 (fun hxs1=>?_);refine Zit 11 [0,1,2,3,4,5,6,7,8,9,10] rfl (by kernel_rfl) (hSv1.out _ hr1) ?_
            iterate 11 (refine tk1 (v:=?_) rfl (Or.inl ⟨by kernel_rfl,?_⟩) ?_;rotate_left;(· intro W2 hSw;(try dsimp only at hSw);go_simp;try with_reducible rfl);try simp only [Act.put,Zfi,Zfz,Zft,putG_a,putG_s,putG_z])
            refine tk0 ?_;refine Za8 [(11,198),(12,186),(13,199),(15,22)] (fun i=>match i with | 12=>[14] | _=>[]) [(11,198),(12,186),(14,200),(13,199),(15,22)] (Zy wr.heap.size ((Q[i]?.getD [])[t]?.getD 0 * x t) 11 12 13 14 15 14) 2 (by kernel_rfl) (fun _ _ _ _ _ hb h=>Zd6 hb h) (fun wx h=>hSv1.out _ (hr1.trans (h.mono hr1.size))) ?hop1 ?hfin1
            case hop1 =>
             intro p hp;simp only [List.mem_cons,List.not_mem_nil,or_false] at hp;simp only [List.map_cons,List.map_nil,Zap,Act.put,Zfi,Zfz,Zft]
             rcases hp with rfl | rfl | rfl | rfl
             ·intro ν wx hb hP
              have hbx:=hr1.trans (hb.mono hr1.size);refine Zl (i:=11) rfl (fun K hK=>?_);go_simp;refine (Zmp xn xm yn ym xA xB yA yB xk xc xj xd yk yc yj yd _ _ wx (hfx.below hbx) (hfy.below hbx) sx1 sy1).mono ?_;rintro e w5 ⟨hb5,na5,A5,k5,c5,nb5,B5,m5,d5,rfl,hf5⟩;exact hK.out _ _ ⟨_,rfl,(by simp only [Zy];exact ⟨_,_,_,_,_,_,_,_,rfl,hf5⟩),hb5,trivial⟩
             ·intro ν wx hb hP
              have h0:=hP (11,198) (by simp) (by kernel_rfl);simp only [Zy] at h0;obtain ⟨na5,A5,k5,c5,nb5,B5,m5,d5,hν,hf5⟩:=h0;rw [hν];refine Zl (i:=12) rfl (fun K hK=>?_);go_simp;refine hK.out _ _ ⟨_,rfl,(by simp only [Zy];exact ⟨_,_,_,_,_,_,_,_,rfl,hf5⟩),Below.refl _ _,?_⟩;exact ⟨_,.int .i64 0,rfl,Or.inl ⟨by kernel_rfl,fun W2 _=>by go_simp⟩,by simp [Zy],trivial⟩
             ·intro ν wx hb hP
              have h0:=hP (12,186) (by simp) (by kernel_rfl);simp only [Zy] at h0;obtain ⟨na5,A5,k5,c5,nb5,B5,m5,d5,hν,hf5⟩:=h0;rw [hν];refine Zl (i:=13) rfl (fun K hK=>?_);go_simp;exact hK.out _ _ ⟨_,rfl,(by simp only [Zy];exact ⟨_,_,_,_,_,_,_,_,rfl,hf5⟩),Below.refl _ _,trivial⟩
             ·intro ν wx hb hP
              refine Zl (i:=15) rfl (fun K hK=>?_);go_simp;exact hK.out _ _ ⟨_,rfl,(by simp only [Zy];exact ⟨_,rfl,hb.size,Blk.new _ _ _⟩),(Below.refl _ _).alloc (Nat.le_refl _) _,trivial⟩
            case hfin1 =>
             intro ν wx hb hP;have h0:=hP (11,198) (by simp);have h1:=hP (12,186) (by simp);have h2:=hP (13,199) (by simp);have h3:=hP (14,200) (by simp);have h4:=hP (15,22) (by simp);simp only [Zy] at h0 h1 h2 h4;obtain ⟨a0,a1,a2,a3,a4,a5,a6,a7,h0,-⟩:=h0;obtain ⟨b0',b1',b2',b3',b4',b5',b6',b7',h1,-⟩:=h1;obtain ⟨wwn,wwA,wwk,wwc,wwm,wwB,wwj,wwd,h2,wwf⟩:=h2;obtain ⟨gww,h4,kv,qv⟩:=h4;simp only [List.map_cons,List.map_nil,Zap,Act.put,Zfi,Zfz,Zft];rw [h0,h1,h2,(show ν 200 = Value.int .i64 0 by simpa [Zy] using h3),h4];clear h0 h1 h2 h3 h4 hP ν;have hbx:=hr1.trans (hb.mono hr1.size);have qv4:=qv.four;have kv2 : wr.heap.size <= gww:=kv;refine (Z2 wwn wwA wwk wwc wwm wwB wwj wwd hbx kv2 qv).elim (fun Zww hq=>?_);have c0:=qv4.1;have c1':=qv4.2.1;have c2':=qv4.2.2.1;have c3:=qv4.2.2.2.1;have f0:=qv4.2.2.2.2.1;have f1:=qv4.2.2.2.2.2.1;have f2:=qv4.2.2.2.2.2.2.1;have f3:=qv4.2.2.2.2.2.2.2;have hZ:=hq.1;refine Ze (i:=16) rfl (by kernel_rfl) (fun K hK=>?_);go_simp;(try rw [hZ]);refine hK.out _ _ (fun _=>hSv1.out _ hq.2.1) ?_;clear hK K
             try simp only [Act.put,Zfi,Zfz,Zft]
             refine Zfk 1 [17] rfl (by kernel_rfl) (hSv1.out _ hq.2.1) ?_
             (refine tk1 (v:=?_) rfl (Or.inl ⟨by kernel_rfl,?_⟩) ?_;rotate_left;(· intro W2 _;go_simp;try with_reducible rfl);try simp only [Act.put,Zfi,Zfz,Zft,putG_a,putG_s,putG_z])
             refine tk0 ?_;refine Zk (by kernel_rfl) ?_ _;refine OnlyNormal.normal ?_;have hbZww:=hq.2.1;have wwb:=Za hq.2.2.1;replace wwf:=Za (Fr.keep wwf hq.2.2.2.1);clear hq hZ c0 c1' c2' c3 f0 f1 f2 f3 qv4 qv kv hbx hb hr1 hSv1 hxs1;have hb0:=hbZww;have qs6:=Za (Zc hb0 qs.out);have hs6:=Za (hfs.out.below hb0);have hK6:=Za (hKt.out.below hb0);obtain ⟨s0,s1,s2,s3,-⟩:=qs6.out.four;obtain ⟨v0,v1,v2,v3,-⟩:=wwb.out.four;clear x0 x1 x2 x3 y0 y1 y2 y3 hfx hfy sx1 sy1 k1 qs hfs hKt hb0;go_wp2_with fail;refine (Zqb sn sm wwn wwm sA sB wwA wwB sk sc sj sd wwk wwc wwj wwd _ _ Zww hs6.out wwf.out (hT.out.dot (by omega) i t (by omega)) sxy.out).mono ?_;rintro e w5' ⟨hb5,zn,zA,zk,zc,zm,zB,zj,zd,rfl,hf9⟩;have qs7:=Zc hb5 qs6.out;obtain ⟨i0,i1,i2,i3,e0,e1,e2,e3⟩:=qs7.four;obtain ⟨W6,hW6,q6,hK7,s6⟩:=Zcv zn zA zk zc zm zB zj zd qs7;have hfin : VarF W6 gs (dotT Q x i (t + 1)):=⟨_,_,_,_,_,_,_,_,q6,hf9.keptV hK7 qs7 (Zae _ _ _ _ _ _ _ _)⟩;have hKfin : Hid (Kept (fun g=>g = gs) V4 W6):=Za ((hK6.out.below hb5).trans hK7);replace hfin:=Za hfin;clear qs7 hf9 q6 hK7 s0 s1 s2 s3 v0 v1 v2 v3 hb5;go_wp2_with fail;(try rw [hW6]);clear hW6
             go_roundg (j - (t + 1))
             case measure=>omega
             case rel=>exact ⟨t + 1,by omega,by go_num,hfin.out,hKfin.out⟩
end Go.Proofs.YtigdclhagmnopaaGreat
