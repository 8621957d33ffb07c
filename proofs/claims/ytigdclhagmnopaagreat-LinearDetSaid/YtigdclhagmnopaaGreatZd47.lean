/- The reference's System. The reference's System, without a -/
import Derived.Deep.LoopGhost
import Derived.Test.YtigdclhagmnopaaGreatZd46
set_option maxRecDepth 100000
set_option maxHeartbeats 4000000
set_option linter.unusedSimpArgs false
set_option linter.unusedVariables false
namespace Go.Proofs.YtigdclhagmnopaaGreat
open Go.RowKit
attribute [local go_sem] Zg
def CD (D M : Nat) (q : Rat) : Prop:=∃ z : Int,q = (z : Rat) / (D : Rat) /\ z.natAbs <= M
section
variable {D M N : Nat} {p q : Rat}
theorem CD.mono (h : CD D M q) (hM : M <= N) : CD D N q:=by
 obtain ⟨z,e,hz⟩:=h;exact ⟨z,e,Nat.le_trans hz hM⟩
theorem CD.add (h : CD D M p) (k : CD D N q) : CD D (M + N) (p + q):=by
 obtain ⟨y,e,hy⟩:=h;obtain ⟨z,f,hz⟩:=k;refine ⟨y + z,?_,by omega⟩;rw [e,f,Rat.intCast_add]
 grind
theorem CD.sub (h : CD D M p) (k : CD D N q) : CD D (M + N) (p - q):=by
 obtain ⟨y,e,hy⟩:=h;obtain ⟨z,f,hz⟩:=k;refine ⟨y - z,?_,by omega⟩;rw [e,f,Rat.intCast_sub]
 grind
theorem CD.mul {E : Nat} (h : CD D M p) (k : CD E N q) : CD (D * E) (M * N) (p * q):=by
 obtain ⟨y,e,hy⟩:=h;obtain ⟨z,f,hz⟩:=k;refine ⟨y * z,?_,by rw [Int.natAbs_mul];exact Nat.mul_le_mul hy hz⟩;rw [e,f,Rat.intCast_mul,Rat.natCast_mul]
 grind
theorem CD.whole (z : Int) : CD 1 z.natAbs (z : Rat):=⟨z,by grind,Nat.le_refl _⟩
theorem CD.lift {E : Nat} (h : CD D M q) (hE : 0 < E) : CD (D * E) (M * E) q:=by
 obtain ⟨z,e,hz⟩:=h;refine ⟨z * E,?_,by rw [Int.natAbs_mul];exact Nat.mul_le_mul hz (by omega)⟩
 have h1 : (E : Rat) ≠ 0:=by
  intro h0
  have : ((E : Int) : Rat) = ((0 : Int) : Rat):=by simpa using h0
  have:=Rat.intCast_inj.1 this;omega
 rw [e,Rat.intCast_mul,Rat.natCast_mul]
 have h2 : ((E : Int) : Rat) = (E : Rat):=by first | rfl | exact Rat.intCast_natCast E | push_cast
 rw [h2]
 grind
end
def Zps (r : RX) : Prop:=((r.n <= 5 \/ 12 < r.n) /\ r.n <= 15) /\ ∀ e ∈ r.es,Zei e.few = false
def calmT (rs : List RX) : Prop:=((rs.length <= 5 \/ 12 < rs.length) /\ rs.length <= 15) /\ ∀ k r,k < 16 -> rs[k]? = some r -> Zps r
theorem calmT.calm {rs : List RX} (h : calmT rs) : calmM rs:=⟨h.1.1,fun k r hk hr=>⟨(h.2 k r hk hr).1.1,(h.2 k r hk hr).2⟩⟩
theorem Zow (A : Option Addr) (n c : Nat) (rs : List RX) (w : World) (h : MXL w A n c rs) :
    Calls Tryz.prog 10 #[.slice A n c] w fun e w'=>∃ b,e = .returned (.bool b) /\ Below w.heap.size w w' /\ (b = false -> calmT rs):=by
 have hl:=h.1;have hnc:=h.2.1;have hcm:=h.2.2.1;unfold maxLen at hcm;replace h:=Za h;replace hl:=Za hl;go_enter Tryz.func10,Tryz.ntmps10;go_wp2_with fail
 go_loopg [3] n (fun k iv wr=>∃ i : Nat,i + k = n /\ i <= 16 /\ iv = .int .i64 i /\ Hid (∀ a r,a < i -> rs[a]? = some r -> Zps r) /\ Below w.heap.size w wr)
 case atStart=>exact ⟨0,by omega,by omega,rfl,Za (fun a r ha=>by omega),Below.refl _ _⟩
 case round =>
  obtain ⟨i,hik,hi16,rfl,hc,hB⟩:=hrel
  by_cases hend : i < n /\ i < 16
  case neg =>
   have hcc : Hid (∀ a r,a < 16 -> rs[a]? = some r -> Zps r):=Za (fun a r ha hr=>by
    have hi:=(List.getElem?_eq_some_iff.1 hr).1
    exact hc.out a r (by rw [hl.out] at hi;omega) hr)
   have fin : Hid (∀ b : Bool,b = (decide (5 < n) && decide (n <= 12) || decide (15 < n)) -> b = false -> calmT rs):=Za (fun b hb hf=>⟨by
    rw [hf] at hb
    have : ¬ (5 < n /\ n <= 12):=fun h=>by rw [decide_eq_true h.1,decide_eq_true h.2] at hb;cases hb
    have h15 : ¬ 15 < n:=fun h=>by rw [decide_eq_true h,Bool.or_true] at hb;cases hb
    rw [hl.out];omega,hcc.out⟩)
   by_cases hin : i < n
   case pos =>
    have t1 : decide ((i : Int) < (n : Int)) = true:=decide_eq_true (by omega);have t2 : decide ((i : Int) < 16) = false:=decide_eq_false (by omega);have t2' : decide (i < 16) = false:=decide_eq_false (by omega);have u5 : decide ((5 : Int) < (n : Int)) = true:=decide_eq_true (by omega);have u12 : decide ((n : Int) <= 12) = false:=decide_eq_false (by omega);have u15 : decide ((15 : Int) < (n : Int)) = true:=decide_eq_true (by omega);go_wp2_with fail;go_ret;exact ⟨_,rfl,hB,fun hf=>absurd hf (by decide)⟩
   have t1 : decide ((i : Int) < (n : Int)) = false:=decide_eq_false (by omega)
   by_cases h5 : 5 < n
   ·have u5 : decide ((5 : Int) < (n : Int)) = true:=decide_eq_true (by omega)
    by_cases h12 : n <= 12
    ·have u12 : decide ((n : Int) <= 12) = true:=decide_eq_true (by omega)
     go_wp2_with fail;go_ret;exact ⟨_,rfl,hB,fun hf=>absurd hf (by decide)⟩
    ·have u12 : decide ((n : Int) <= 12) = false:=decide_eq_false (by omega)
     have u15 : decide ((15 : Int) < (n : Int)) = decide (15 < n):=decide_eq_decide.2 (by omega);go_wp2_with fail;go_ret;exact ⟨_,rfl,hB,fun hf=>fin.out _ (by first | (rw [decide_eq_false h12,Bool.and_false,Bool.false_or]) | (rw [decide_eq_false h12,Bool.and_false,Bool.false_or,u15])) hf⟩
   ·have u5 : decide ((5 : Int) < (n : Int)) = false:=decide_eq_false (by omega)
    have u15 : decide ((15 : Int) < (n : Int)) = false:=decide_eq_false (by omega);go_wp2_with fail;go_ret;exact ⟨_,rfl,hB,fun hf=>fin.out _ (by rw [decide_eq_false h5,decide_eq_false (by omega : ¬ 15 < n)];rfl) rfl⟩
  obtain ⟨hin,hi16'⟩:=hend;obtain ⟨gk',rfl⟩ : ∃ j,gk = j + 1:=⟨gk - 1,by omega⟩
  obtain rfl : gk' = n - (i + 1):=by omega
  have t1 : decide ((i : Int) < (n : Int)) = true:=decide_eq_true (by omega);have t2 : decide ((i : Int) < 16) = true:=decide_eq_true (by omega);have t2' : decide (i < 16) = true:=decide_eq_true (by omega)
  have bi : (i : Int) < (n : Int):=by omega
  obtain ⟨g,o,r,rfl,hr,k0,hF⟩:=(h.out.below hB).at_ hin;have hrl:=Nat.le_trans hF.2.1 hF.2.2.1;unfold maxLen at hrl;have hes : Hid (r.es.length = r.n):=Za hF.1;have hrowF:=Za (fun (W : World) (hb : Below wr.heap.size wr W)=>hF.below hb);replace hr:=Za hr;clear hF
  by_cases hgr : 5 < r.n /\ r.n <= 12 \/ 15 < r.n
  case pos =>
   by_cases h12 : r.n <= 12
   ·have u5 : decide ((5 : Int) < (r.n : Int)) = true:=decide_eq_true (by omega)
    have u12 : decide ((r.n : Int) <= 12) = true:=decide_eq_true (by omega);replace hgr:=Za hgr;go_wp2_with fail;go_ret;exact ⟨_,rfl,hB,fun hf=>absurd hf (by decide)⟩
   ·have u5 : decide ((5 : Int) < (r.n : Int)) = true:=decide_eq_true (by omega)
    have u12 : decide ((r.n : Int) <= 12) = false:=decide_eq_false (by omega);have u15 : decide ((15 : Int) < (r.n : Int)) = true:=decide_eq_true (by omega);replace hgr:=Za hgr;go_wp2_with fail;go_ret;exact ⟨_,rfl,hB,fun hf=>absurd hf (by decide)⟩
  have hcr : Hid ((r.n <= 5 \/ 12 < r.n) /\ r.n <= 15):=Za (by omega)
  have INNER : ∀ wz : World,wz = wr -> True:=fun _ _=>trivial
  clear INNER;obtain ⟨wr0,hwr0⟩ : ∃ wx : World,wx = wr:=⟨_,rfl⟩;subst hwr0
  by_cases h5 : 5 < r.n
  case pos =>
   have u5 : decide ((5 : Int) < (r.n : Int)) = true:=decide_eq_true (by omega);have u12 : decide ((r.n : Int) <= 12) = false:=decide_eq_false (by omega);have u15 : decide ((15 : Int) < (r.n : Int)) = false:=decide_eq_false (by omega);replace hgr:=Za hgr;go_wp2_with fail
   go_loopg [4] r.n (fun k iv wx=>∃ j : Nat,j + k = r.n /\ iv = .int .i64 j /\ Hid (∀ a e,a < j -> r.es[a]? = some e -> Zei e.few = false) /\ Below wr0.heap.size wr0 wx)
   case atStart=>exact ⟨0,by omega,rfl,Za (fun a e ha=>by omega),Below.refl _ _⟩
   case round =>
    obtain ⟨j,hjk,rfl,hce,hB2⟩:=hrel;have k1:=Zb hB2 k0;have hBx:=Za (hB.trans (hB2.mono hB.size))
    cases gk with
    | zero =>
     obtain rfl : j = r.n:=by omega
     have t3 : decide ((r.n : Int) < (r.n : Int)) = false:=by simp
     have hc2 : Hid (∀ a x,a < i + 1 -> rs[a]? = some x -> Zps x):=Za (fun a x ha hx=>by
      by_cases he : a = i
      ·subst he
       have:=hr.out;rw [this] at hx
       cases hx
       refine ⟨hcr.out,fun e he=>?_⟩;obtain ⟨t,ht,hte⟩:=List.getElem_of_mem he;exact hce.out t e (by rw [hes.out] at ht;exact ht) (by rw [List.getElem?_eq_getElem ht,hte])
      ·exact hc.out a x (by omega) hx)
     go_wp2_with fail
     go_roundg (n - (i + 1))
     case measure=>omega
     case rel=>exact ⟨i + 1,by omega,by omega,by go_num,hc2,hBx.out⟩
    | succ gk' =>
     obtain rfl : gk' = r.n - (j + 1):=by omega
     have hjn : j < r.n:=by omega
     have t3 : decide ((j : Int) < (r.n : Int)) = true:=decide_eq_true (by omega)
     have bj : (j : Int) < (r.n : Int):=by omega
     obtain ⟨g2,o2,e,hA2,hee,⟨c0,c1,c2,c3⟩,hLa,hLb⟩:=(hrowF.out _ hB2).at_ hjn;rw [hA2] at k1;replace hA2:=Za hA2;have hn1:=Nat.le_trans hLa.2.1 hLa.2.2.1;have hm1:=Nat.le_trans hLb.2.1 hLb.2.2.1;obtain ⟨b,hb⟩ : ∃ b,Zei (max e.n e.m) = b:=⟨_,rfl⟩;replace hee:=Za hee;have hb':=Za hb;go_wp2_with fail;refine (Zmz _ _ _ _ _ _ _ _ _ hn1 hm1 b hb).mono ?_;rintro e2 w5 ⟨rfl,hb5⟩;have hB5:=hB2.trans (hb5.mono hB2.size);clear hb hLa hLb
     cases b with
     | true =>
      go_wp2_with fail;go_ret;exact ⟨_,rfl,hBx.out.trans (hb5.mono hBx.out.size),fun hf=>absurd hf (by decide)⟩
     | false =>
      have hce2 : Hid (∀ a e,a < j + 1 -> r.es[a]? = some e -> Zei e.few = false):=Za (fun a x ha hx=>by
       by_cases he : a = j
       ·subst he
        have:=hee.out;rw [this] at hx
        cases hx
        exact hb'.out
       ·exact hce.out a x (by omega) hx)
      go_wp2_with fail
      go_roundg (r.n - (j + 1))
      case measure=>omega
      case rel=>exact ⟨j + 1,by omega,by go_num,hce2,hB5⟩
  have u5 : decide ((5 : Int) < (r.n : Int)) = false:=decide_eq_false (by omega);have u15 : decide ((15 : Int) < (r.n : Int)) = false:=decide_eq_false (by omega);replace hgr:=Za hgr;go_wp2_with fail
  go_loopg [4] r.n (fun k iv wx=>∃ j : Nat,j + k = r.n /\ iv = .int .i64 j /\ Hid (∀ a e,a < j -> r.es[a]? = some e -> Zei e.few = false) /\ Below wr0.heap.size wr0 wx)
  case atStart=>exact ⟨0,by omega,rfl,Za (fun a e ha=>by omega),Below.refl _ _⟩
  case round =>
   obtain ⟨j,hjk,rfl,hce,hB2⟩:=hrel;have k1:=Zb hB2 k0;have hBx:=Za (hB.trans (hB2.mono hB.size))
   cases gk with
   | zero =>
    obtain rfl : j = r.n:=by omega
    have t3 : decide ((r.n : Int) < (r.n : Int)) = false:=by simp
    have hc2 : Hid (∀ a x,a < i + 1 -> rs[a]? = some x -> Zps x):=Za (fun a x ha hx=>by
     by_cases he : a = i
     ·subst he
      have:=hr.out;rw [this] at hx
      cases hx
      refine ⟨hcr.out,fun e he=>?_⟩;obtain ⟨t,ht,hte⟩:=List.getElem_of_mem he;exact hce.out t e (by rw [hes.out] at ht;exact ht) (by rw [List.getElem?_eq_getElem ht,hte])
     ·exact hc.out a x (by omega) hx)
    go_wp2_with fail
    go_roundg (n - (i + 1))
    case measure=>omega
    case rel=>exact ⟨i + 1,by omega,by omega,by go_num,hc2,hBx.out⟩
   | succ gk' =>
    obtain rfl : gk' = r.n - (j + 1):=by omega
    have hjn : j < r.n:=by omega
    have t3 : decide ((j : Int) < (r.n : Int)) = true:=decide_eq_true (by omega)
    have bj : (j : Int) < (r.n : Int):=by omega
    obtain ⟨g2,o2,e,hA2,hee,⟨c0,c1,c2,c3⟩,hLa,hLb⟩:=(hrowF.out _ hB2).at_ hjn;rw [hA2] at k1;replace hA2:=Za hA2;have hn1:=Nat.le_trans hLa.2.1 hLa.2.2.1;have hm1:=Nat.le_trans hLb.2.1 hLb.2.2.1;obtain ⟨b,hb⟩ : ∃ b,Zei (max e.n e.m) = b:=⟨_,rfl⟩;replace hee:=Za hee;have hb':=Za hb;go_wp2_with fail;refine (Zmz _ _ _ _ _ _ _ _ _ hn1 hm1 b hb).mono ?_;rintro e2 w5 ⟨rfl,hb5⟩;have hB5:=hB2.trans (hb5.mono hB2.size);clear hb hLa hLb
    cases b with
    | true =>
     go_wp2_with fail;go_ret;exact ⟨_,rfl,hBx.out.trans (hb5.mono hBx.out.size),fun hf=>absurd hf (by decide)⟩
    | false =>
     have hce2 : Hid (∀ a e,a < j + 1 -> r.es[a]? = some e -> Zei e.few = false):=Za (fun a x ha hx=>by
      by_cases he : a = j
      ·subst he
       have:=hee.out;rw [this] at hx
       cases hx
       exact hb'.out
      ·exact hce.out a x (by omega) hx)
     go_wp2_with fail
     go_roundg (r.n - (j + 1))
     case measure=>omega
     case rel=>exact ⟨j + 1,by omega,by go_num,hce2,hB5⟩
theorem Zur (A : Option Addr) (n c : Nat) (rs : List RX) (w : World) (h : MXL w A n c rs) (E : Int) (hs : sqE rs = E) (hE : E ≠ 0) :
    Calls Tryz.prog 24 #[.slice A n c] w fun e w'=>e = .returned (.tuple #[.agg #[.bool false,.slice none 0 0,.bool false,.slice none 0 0],.int .i64 E]) /\ Below w.heap.size w w':=by
 obtain ⟨W0,hW0,hB0,q0,s0⟩:=Zbe w 45 #[.bool false,.slice none 0 0,.bool false,.slice none 0 0];have t1 : decide (E ≠ 0) = true:=decide_eq_true hE
 have t1' : (E != 0) = true:=by simpa using hE
 replace h:=Za (h.below hB0);replace hs:=Za hs;replace hE:=Za hE;go_enter Tryz.func24,Tryz.ntmps24;go_wp2_with fail;(try rw [hW0]);refine (Zdy A n c rs W0 h.out E hs.out).mono ?_;rintro e w1 ⟨rfl,hb1⟩;have q1:=Zc hb1 q0;obtain ⟨c0,c1,c2,c3,f0,f1,f2,f3⟩:=q1.four;go_wp2_with fail;obtain ⟨W5,hW5,hB5,q2,-,-,s5⟩:=Z0 false none 0 0 false none 0 0 (hB0.trans (hb1.mono hB0.size)) (Nat.le_refl _) q1;(try rw [hW5]);obtain ⟨r0,r1,r2,r3,-⟩:=q2.four;refine bodyPost_ret (v:=.tuple #[.agg #[.bool false,.slice none 0 0,.bool false,.slice none 0 0],.int .i64 E]) (by simp [results,Tryz.results24,go_sem,r0,r1,r2,r3]) rfl ?_;exact ⟨rfl,hB5⟩
theorem Zd9 (A : Option Addr) (n c : Nat) (rs : List RX) (w : World) (h : MXL w A n c rs) (hs : sqE rs = 0) (hg : Zro (qM rs) n) :
    Calls Tryz.prog 24 #[.slice A n c] w fun e w'=>∃ na A n c nb B m d,e = .returned (.tuple #[.agg #[.bool na,.slice A n c,.bool nb,.slice B m d],.int .i64 0]) /\ Below w.heap.size w w' /\ Fr w' na A n c nb B m d (Zph (qM rs)):=by
 obtain ⟨hE1,hE2⟩:=Zd8 hs;obtain ⟨f1,f2,f3,f4,f5⟩:=Zb4 hE1;have hl:=h.1;have hQr:=Znu h hE1;rw [show n0R rs = n by omega] at hQr;obtain ⟨W0,hW0,hB0,q0,s0⟩:=Zbe w 45 #[.bool false,.slice none 0 0,.bool false,.slice none 0 0];have hF:=Za ((h.good hE1).below hB0);replace h:=Za (h.below hB0);replace hs:=Za hs;replace hQr:=Za hQr
 have hn1 : 1 <= n:=by omega
 have hn12 : n <= 12:=by omega
 clear f3 f4 f5 hE1 hE2 f1 f2;go_enter Tryz.func24,Tryz.ntmps24;go_wp2_with fail;(try rw [hW0]);refine (Zdy A n c rs W0 h.out 0 hs.out).mono ?_;rintro e w1 ⟨rfl,hb1⟩;have q1:=Zc hb1 q0;clear hW0;go_wp2_with fail;refine (ldet_ok A n c (qM rs) w1 (hF.out.below hb1) (by omega) (by omega) hQr.out hg.1 hg.2.1 hg.2.2.1 hg.2.2.2.1).mono ?_;rintro e w2 ⟨hb2,na,A2,n2,c2,nb,B2,m2,d2,rfl,hf2⟩;rw [hg.2.2.2.2] at hf2;have hB2:=hB0.trans ((hb1.trans (hb2.mono hb1.size)).mono hB0.size);have q2:=Zc hb2 q1;obtain ⟨c0,c1,c2',c3,f0,f1,f2,f3⟩:=q2.four;obtain ⟨W5,hW5,hB5,q5,kW,-,s5⟩:=Z0 na A2 n2 c2 nb B2 m2 d2 hB2 (Nat.le_refl _) q2;have hf5:=Za (Fr.keep hf2 kW);clear hf2;go_wp2_with fail;(try rw [hW5]);obtain ⟨r0,r1,r2,r3,-⟩:=q5.four;refine bodyPost_ret (v:=.tuple #[.agg #[.bool na,.slice A2 n2 c2,.bool nb,.slice B2 m2 d2],.int .i64 0]) (by simp [results,Tryz.results24,go_sem,r0,r1,r2,r3]) rfl ?_;exact ⟨_,_,_,_,_,_,_,_,rfl,hB5,hf5.out⟩
section
variable {k n m : Nat} {R : List (List Rat)}
def Zn7 (k m n : Nat) (R : List (List Rat)) : Prop:=
    okZ (pw 200) m n 0 0 (Zr R) 1 /\ okR (pw 200) (pw 200) m n 0 0 R /\ Zf7 R n m /\ (Zaa n 0 0 (Zr R) false 1).2.1 = (Zaf n 0 0 R false).2.1 /\ (Zaf n 0 0 R false).2.1 <= n /\
    ((Zaf n 0 0 R false).2.1 < n -> Zab n (Zn R) = 0) /\
    ((Zaf n 0 0 R false).2.1 = n -> Zab n (Zn R) ≠ 0 /\ ∃ X : Nat -> Nat -> Rat,Zey (Zn (Zaf n 0 0 R false).1) X n m /\ Zey (fun i j=>(Zac (Zaa n 0 0 (Zr R) false 1).1 i j : Rat)) X n m /\ SolQ (Zn R) X n m /\
     ∀ i k',(X i k').num.natAbs <= pw ((k * m + k + 1) * n) /\ (X i k').den <= pw ((k * m + k + 1) * n))
theorem SmE.solve (h : SmE k R) (hl : R.length = n) (hn : n <= 900) (hrow : ∀ i,i < n -> (R[i]?.getD []).length = m) (hnm : n <= m) (h1 : (k * m + k + 1) * n + k * m < 189) (h2 : k < 189) (h3 : 2 * ((k * m + k + 1) * n) + k * m + 1 < 400) : Zn7 k m n R:=by
 unfold Zn7;have hb:=Zfo (b:=k * m + k) n hn;obtain ⟨B,hB⟩ : ∃ B,Za0 (pw (k * m + k)) n = B:=⟨_,rfl⟩;rw [hB] at hb;obtain ⟨b,hbe⟩ : ∃ b,(k * m + k + 1) * n = b:=⟨_,rfl⟩;rw [hbe] at hb h1 h3 ⊢
 have bb : B * B <= pw (b + b):=by rw [Zdf];exact Nat.mul_le_mul hb hb
 have bs : B * pw (k * m) <= pw (b + k * m):=by rw [Zdf];exact Nat.mul_le_mul hb (Nat.le_refl _)
 have g1 : (n + 1) * (B * B) < pw 400:=by
  have h5 : n + 1 <= pw 1:=by rw [Zbd,Zdc];omega
  have h6 : (n + 1) * (B * B) <= pw (1 + (b + b)):=by rw [Zdf];exact Nat.mul_le_mul h5 bb
  exact Nat.lt_of_le_of_lt h6 (Zbs (by omega))
 have g2 : B * B * pw (k * m) < pw 400:=by
  have h6 : B * B * pw (k * m) <= pw (b + b + k * m):=by rw [Zdf];exact Nat.mul_le_mul bb (Nat.le_refl _)
  exact Nat.lt_of_le_of_lt h6 (Zbs (by omega))
 have g3 : B * pw (k * m) < pw 300:=Nat.lt_of_le_of_lt bs (Zbs (by omega));have hs:=Zlc (B:=pw (k * m + k)) (S:=pw (k * m)) (Zbn _) (Zbn _) R hl hrow (fun i hi=>h.denAt (hrow i hi)) (fun i j hi=>h.whole (hrow i hi) j) hnm (by rw [hB];exact g1) (by rw [hB];exact g2) (by rw [hB];exact g3);rw [hB] at hs;obtain ⟨o1,o2,o3,o4,o5,o6⟩:=hs;have p1 : B < pw 200:=Nat.lt_of_le_of_lt hb (Zbs (by omega));have p2 : B * pw (k * m) < pw 200:=Nat.lt_of_le_of_lt bs (Zbs (by omega));refine ⟨Zfd p1 _ _ _ _ _ o1,Zgv p1 p2 _ _ _ _ o2,⟨fun i t hi ht=>?_,fun i j=>?_⟩,o3,o4,o5,fun hr=>?_⟩
 ·refine Nat.lt_of_le_of_lt (h.denTo i t) (Zbs ?_)
  have : k * t <= k * m:=Nat.mul_le_mul (Nat.le_refl _) ht;omega
 ·exact Nat.lt_of_le_of_lt (h i j).1 (Zbs (by omega))
 ·obtain ⟨q1,X,q2,q3,q4,q5⟩:=o6 hr
  exact ⟨q1,X,q2,q3,q4,fun i k'=>⟨Nat.le_trans (q5 i k').1 hb,Nat.le_trans (q5 i k').2 hb⟩⟩
end
theorem Zfl {Q : List (List Rat)} {b : List Rat} {n : Nat} (hrow : ∀ i,i < n -> (Q[i]?.getD []).length = n) (hq : Q.length = n) (i j : Nat) : Zn (wideB Q b n n) i j = if i < n then (if j < n then Zn Q i j else if j = n then b[i]?.getD 0 else 0) else 0:=by
 by_cases hi : i < n
 ·rw [if_pos hi]
  unfold Zn;rw [Zi1 hi,if_pos hi];have hr:=hrow i hi
  by_cases hj : j < n
  ·rw [if_pos hj,List.getElem?_append_left (by omega)]
  ·rw [if_neg hj,List.getElem?_append_right (by omega),hr]
   by_cases hjn : j = n
   ·subst hjn;rw [if_pos rfl,Nat.sub_self];rfl
   ·rw [if_neg hjn,List.getElem?_eq_none (by simp;omega)];rfl
 ·rw [if_neg hi]
  unfold Zn;rw [List.getElem?_eq_none (l:=wideB Q b n n) (by rw [Zmk];omega)];rfl
theorem Zfc (k : Nat) : (0 : Rat).num.natAbs <= pw k /\ (0 : Rat).den <= pw k:=⟨Nat.zero_le _,Zbn _⟩
theorem SmE.wideB {k n : Nat} {Q : List (List Rat)} {b : List Rat} (h : SmE k Q) (hb : ∀ i : Nat,(b[i]?.getD 0).num.natAbs <= pw k /\ (b[i]?.getD 0).den <= pw k) (hrow : ∀ i,i < n -> (Q[i]?.getD []).length = n) (hq : Q.length = n) : SmE k (wideB Q b n n):=fun i j=>by
 rw [Zfl hrow hq]
 split
 ·split
  ·exact h i j
  ·split
   ·exact hb i
   ·exact Zfc k
 ·exact Zfc k
def FracD (w : World) (d : DF) (E : Int) (e : Ending) (w' : World) : Prop:=
 ∃ A n c B m d1,e = .returned (.tuple #[.agg #[.bool d.na,.slice A n c,.bool d.nb,.slice B m d1],.int .i64 E]) /\ Below w.heap.size w w' /\ Lim w' A n c d.la /\ Lim w' B m d1 d.lb
def RowD (w : World) (ds : List DF) (E : Int) (e : Ending) (w' : World) : Prop:=
 ∃ A n c,e = .returned (.tuple #[.slice A n c,.int .i64 E]) /\ Below w.heap.size w w' /\ XL w' A n c ds
def dfZ : DF:=⟨false,[],false,[]⟩
theorem FracD.of_fr {w w' : World} {e : Ending} {q : Rat} (h : ∃ na A n c nb B m d,e = .returned (.tuple #[.agg #[.bool na,.slice A n c,.bool nb,.slice B m d],.int .i64 0]) /\ Below w.heap.size w w' /\ Fr w' na A n c nb B m d q) : FracD w (dfQ q) 0 e w':=by
 obtain ⟨na,A,n,c,nb,B,m,d,e1,hb,hf⟩:=h;have h1:=hf.1.1;have h2:=hf.2.1;have h3:=hf.2.2.2;rw [Int.natAbs_natCast] at h3
 have h4 : nb = false:=by rw [h2];exact decide_eq_false (by omega)
 subst h1 h4;exact ⟨_,_,_,_,_,_,e1,hb,hf.1.2.2,h3⟩
def SmallQ (Q : List (List Rat)) (n : Nat) : Prop:=0 < n /\ n <= 5 /\ Q.length = n /\ (∀ i,i < n -> (Q[i]?.getD []).length = n) /\ SmE 2 Q
theorem SmallQ.det {Q : List (List Rat)} {n : Nat} (h : SmallQ Q n) : Zro Q n /\ okR (pw 190) (pw 190) n n 0 0 Q /\ Zph Q = Zab n (Zn Q):=by
 obtain ⟨h1,h2,h3,h4,h5⟩:=h;have hb : (2 * n + 2 + 1) * n <= 13 * 5:=Nat.mul_le_mul (by omega) (by omega);have hb2 : 2 * n * n <= 10 * 5:=Nat.mul_le_mul (by omega) (by omega);exact h5.det h3 (by omega) h4 (by omega) (by decide) (by omega)
theorem SmallQ.solveB {Q : List (List Rat)} {n : Nat} {b : List Rat} (h : SmallQ Q n) (hb : ∀ i : Nat,(b[i]?.getD 0).num.natAbs <= pw 2 /\ (b[i]?.getD 0).den <= pw 2) : Zn7 2 (n + 1) n (wideB Q b n n):=(h.2.2.2.2.wideB hb h.2.2.2.1 h.2.2.1).solve (Zmk Q b n n) (m:=n + 1) (by have:=h.2.1;omega)
 (fun i hi=>by rw [Zi1 hi,if_pos hi,List.length_append,h.2.2.2.1 i hi];rfl) (by omega)
 (by
  have h2:=h.2.1;have : (2 * (n + 1) + 2 + 1) * n <= 15 * 5:=Nat.mul_le_mul (by omega) (by omega)
  omega) (by decide)
 (by
  have h2:=h.2.1;have : (2 * (n + 1) + 2 + 1) * n <= 15 * 5:=Nat.mul_le_mul (by omega) (by omega)
  omega)
theorem OwnF.xl {t : TypeId} {w : World} {base : Nat} {v : Value} {qs : List Rat} (h : OwnF t w base v qs) : ∃ A n c,v = .slice A n c /\ XL w A n c (qs.map dfQ):=by
 obtain ⟨A,c,e,hf⟩:=h.fl;exact ⟨A,_,c,e,hf.xl⟩
theorem Zvn {n : Nat} (f g : Nat -> Rat) : sumQ n (fun i=>f i + g i) = sumQ n f + sumQ n g:=by
 induction n with
 | zero=>simp only [sumQ];grind
 | succ n ih=>simp only [sumQ];rw [ih];grind
theorem Zkm {n : Nat} (f g : Nat -> Rat) : sumQ n (fun i=>f i - g i) = sumQ n f - sumQ n g:=by
 induction n with
 | zero=>simp only [sumQ];grind
 | succ n ih=>simp only [sumQ];rw [ih];grind
theorem Zhd {n : Nat} (f : Nat -> Rat) (c : Rat) : sumQ n (fun i=>f i * c) = sumQ n f * c:=by
 induction n with
 | zero=>simp only [sumQ];grind
 | succ n ih=>simp only [sumQ];rw [ih];grind
theorem Zjd {n m : Nat} (f : Nat -> Nat -> Rat) : sumQ n (fun r=>sumQ m (fun k=>f r k)) = sumQ m (fun k=>sumQ n (fun r=>f r k)):=by
 induction n with
 | zero=>simp only [sumQ];rw [Ze8 (fun _ _=>rfl)]
 | succ n ih=>simp only [sumQ];rw [ih,Zvn]
theorem Zip (ws : List Int) (a b : Nat -> Int) (n : Nat) : ((Zbi ws a b n : Int) : Rat) = sumQ n (fun r=>(Zar ws r : Rat) * ((a r : Rat) * (b r : Rat))):=by
 induction n with
 | zero=>rfl
 | succ n ih =>
  simp only [Zbi,sumQ];rw [Rat.intCast_add,Rat.intCast_mul,Rat.intCast_mul,ih]
  rfl
section
variable (rs : List RI) (rr ws : List Int) (x : Nat -> Rat)
def Zck (t r : Nat) : Rat:=(Zar rr r : Rat) - sumQ t (fun k=>(Zat rs k r : Rat) * x k)
def Zi3 (m t : Nat) : Rat:=sumQ t (fun r=>Zck rs rr x m r * Zck rs rr x m r * (Zar ws r : Rat))
def Zk5 (n t : Nat) : Rat:=((Zbi ws (Zar rr) (Zar rr) n : Int) : Rat) - sumQ t (fun k=>x k * ((Zbi ws (Zat rs k) (Zar rr) n : Int) : Rat))
def Zmn (n m : Nat) : Prop:=∀ i,i < m -> sumQ m (fun j=>((Zbi ws (Zat rs i) (Zat rs j) n : Int) : Rat) * x j) = ((Zbi ws (Zat rs i) (Zar rr) n : Int) : Rat)
end
section
variable {rs : List RI} {rr ws : List Int} {x : Nat -> Rat} {n m : Nat}
theorem Zse (t r : Nat) : Zck rs rr x (t + 1) r = Zck rs rr x t r - (Zat rs t r : Rat) * x t:=by
 unfold Zck;simp only [sumQ]
 grind
theorem Zsq (r : Nat) : Zck rs rr x 0 r = (Zar rr r : Rat):=by
 unfold Zck;simp only [sumQ]
 grind
theorem Zvg (hN : Zmn rs rr ws x n m) {k : Nat} (hk : k < m) : sumQ n (fun r=>(Zar ws r : Rat) * (Zck rs rr x m r * (Zat rs k r : Rat))) = 0:=by
 have h1 : sumQ n (fun r=>(Zar ws r : Rat) * (Zck rs rr x m r * (Zat rs k r : Rat))) = sumQ n (fun r=>(Zar ws r : Rat) * ((Zat rs k r : Rat) * (Zar rr r : Rat)) - sumQ m (fun j=>(Zar ws r : Rat) * ((Zat rs k r : Rat) * (Zat rs j r : Rat)) * x j)):=Zy fun r _=>by
  have h2 : sumQ m (fun j=>(Zar ws r : Rat) * ((Zat rs k r : Rat) * (Zat rs j r : Rat)) * x j) = sumQ m (fun j=>(Zat rs j r : Rat) * x j) * ((Zar ws r : Rat) * (Zat rs k r : Rat)):=by
   rw [<- Zhd]
   exact Zy fun j _=>by grind
  rw [h2];unfold Zck
  grind
 have h3 : sumQ n (fun r=>sumQ m (fun j=>(Zar ws r : Rat) * ((Zat rs k r : Rat) * (Zat rs j r : Rat)) * x j)) = sumQ m (fun j=>((Zbi ws (Zat rs k) (Zat rs j) n : Int) : Rat) * x j):=by
  rw [Zjd]
  exact Zy fun j _=>by rw [Zhd,Zip]
 rw [h1,Zkm,h3,hN k hk,Zip]
 grind
theorem Zva (hN : Zmn rs rr ws x n m) : Zi3 rs rr ws x m n = Zk5 rs rr ws x n m:=by
 have h1 : Zi3 rs rr ws x m n = sumQ n (fun r=>(Zar ws r : Rat) * (Zck rs rr x m r * (Zar rr r : Rat)) - sumQ m (fun k=>(Zar ws r : Rat) * (Zck rs rr x m r * (Zat rs k r : Rat)) * x k)):=Zy fun r _=>by
  have h2 : sumQ m (fun k=>(Zar ws r : Rat) * (Zck rs rr x m r * (Zat rs k r : Rat)) * x k) = sumQ m (fun j=>(Zat rs j r : Rat) * x j) * ((Zar ws r : Rat) * Zck rs rr x m r):=by
   rw [<- Zhd]
   exact Zy fun j _=>by grind
  have h4 : sumQ m (fun j=>(Zat rs j r : Rat) * x j) = (Zar rr r : Rat) - Zck rs rr x m r:=by unfold Zck;grind
  rw [h2,h4]
  grind
 have h3 : sumQ n (fun r=>sumQ m (fun k=>(Zar ws r : Rat) * (Zck rs rr x m r * (Zat rs k r : Rat)) * x k)) = 0:=by
  rw [Zjd]
  exact Ze8 fun k hk=>by rw [Zhd,Zvg hN hk];grind
 have h5 : sumQ n (fun r=>(Zar ws r : Rat) * (Zck rs rr x m r * (Zar rr r : Rat))) = Zk5 rs rr ws x n m:=by
  have h6 : sumQ n (fun r=>(Zar ws r : Rat) * (Zck rs rr x m r * (Zar rr r : Rat))) = sumQ n (fun r=>(Zar ws r : Rat) * ((Zar rr r : Rat) * (Zar rr r : Rat)) - sumQ m (fun k=>x k * ((Zar ws r : Rat) * ((Zat rs k r : Rat) * (Zar rr r : Rat))))):=Zy fun r _=>by
   have h2 : sumQ m (fun k=>x k * ((Zar ws r : Rat) * ((Zat rs k r : Rat) * (Zar rr r : Rat)))) = sumQ m (fun j=>(Zat rs j r : Rat) * x j) * ((Zar ws r : Rat) * (Zar rr r : Rat)):=by
    rw [<- Zhd]
    exact Zy fun j _=>by grind
   rw [h2];unfold Zck
   grind
  rw [h6,Zkm];unfold Zk5;rw [<- Zip,Zjd]
  congr 1
  refine Zy fun k _=>?_
  rw [Zip];have:=Zhd (n:=n) (fun r=>(Zar ws r : Rat) * ((Zat rs k r : Rat) * (Zar rr r : Rat))) (x k);rw [show x k * sumQ n (fun r=>(Zar ws r : Rat) * ((Zat rs k r : Rat) * (Zar rr r : Rat))) = sumQ n (fun r=>(Zar ws r : Rat) * ((Zat rs k r : Rat) * (Zar rr r : Rat))) * x k by grind,<- this]
  exact Zy fun r _=>by grind
 rw [h1,Zkm,h3,h5]
 grind
end
def B40 (z : Int) : Prop:=z.natAbs <= 1099511627776
theorem b40_pw : 1099511627776 <= pw 2:=by decide +kernel
section
variable {D M N : Nat} {q : Rat}
theorem CD.small (h : CD D M q) (hD : 0 < D) : q.num.natAbs <= M /\ q.den <= D:=by
 obtain ⟨z,e,hz⟩:=h
 have hD0 : ((D : Int) : Rat) ≠ 0:=by
  intro h0;have:=Rat.intCast_inj.1 (show ((D : Int) : Rat) = ((0 : Int) : Rat) by simpa using h0);omega
 have e2 : ((D : Int) : Rat) * q = (z : Rat):=by
  have h2 : ((D : Int) : Rat) = (D : Rat):=Rat.intCast_natCast D;rw [h2] at hD0 ⊢;rw [e]
  grind
 exact Zeo ⟨z,e2,hz⟩ ⟨(D : Int),rfl,by simp⟩ hD0
theorem CD.sm (h : CD D M q) (hD : 0 < D) {i j : Nat} (hM : M <= pw i) (hDj : D <= pw j) (hi : i < 1000) (hj : j < 1000) : Sm q:=
 ⟨Nat.lt_of_le_of_lt (Nat.le_trans (h.small hD).1 hM) (Zbs hi),Nat.lt_of_le_of_lt (Nat.le_trans (h.small hD).2 hDj) (Zbs hj)⟩
theorem CD.liftL {E : Nat} (h : CD E M q) (hD : 0 < D) (hE : E = 1) : CD D (M * D) q:=by
 subst hE;have:=h.lift hD
 rwa [Nat.one_mul] at this
theorem CD.zero : CD D M 0:=⟨0,by rw [show ((0 : Int) : Rat) = 0 from rfl];grind,Nat.zero_le _⟩
theorem CD.sumQ {n : Nat} {f : Nat -> Rat} (h : ∀ i,i < n -> CD D M (f i)) : CD D (n * M) (sumQ n f):=by
 induction n with
 | zero=>exact CD.zero
 | succ n ih =>
  rw [Nat.succ_mul];exact (ih fun i hi=>h i (by omega)).add (h n (by omega))
end
theorem Zut {B n : Nat} {Q : Nat -> Nat -> Rat} {x y : Nat -> Rat} (hQ : ∀ a b,a < n -> b < n -> BndQ B (Q a b)) (hy : ∀ a,a < n -> BndQ B (y a)) (hE : ∀ i,i < n -> sumQ n (fun j=>Q i j * x j) = y i) (h0 : Zab n Q ≠ 0) :
    ∃ D,0 < D /\ D <= Za0 B n /\ ∀ k,k < n -> CD D (Za0 B n) (x k):=by
 obtain ⟨d,hd,hdb⟩:=Zgk hQ
 have hd0 : d ≠ 0:=fun e=>h0 (by rw [hd,e];rfl)
 refine ⟨d.natAbs,by omega,hdb,fun k hk=>?_⟩;have hc:=Zuh Q x y hE hk
 obtain ⟨z,hz,hzb⟩:=Zgk (B:=B) (n:=n) (M:=fun a b=>if b = k then y a else Q a b) (fun a b ha hb=>by
  show BndQ B (if b = k then y a else Q a b)
  by_cases h : b = k
  ·rw [if_pos h];exact hy a ha
  ·rw [if_neg h];exact hQ a b ha hb)
 rw [hz,hd] at hc
 have hdr : (d : Rat) ≠ 0:=fun e=>hd0 (by exact_mod_cast e)
 rcases Int.natAbs_eq d with h | h
 ·refine ⟨z,?_,hzb⟩
  have h1 : ((d.natAbs : Nat) : Rat) = (d : Rat):=by rw [<- Rat.intCast_natCast,<- h]
  rw [h1,<- hc]
  grind
 ·refine ⟨-z,?_,by rw [Int.natAbs_neg];exact hzb⟩
  have h1 : ((d.natAbs : Nat) : Rat) = -(d : Rat):=by
   rw [<- Rat.intCast_natCast,show ((d.natAbs : Nat) : Int) = -d by omega,Rat.intCast_neg]
  rw [h1,Rat.intCast_neg,<- hc]
  grind
structure Znn (rs : List RI) (rr ws : List Int) (x : Nat -> Rat) (n m : Nat) : Prop where
 xk : ∀ k,k < m -> Sm (x k)
 f : ∀ r k,r < n -> k < m -> Sm ((Zat rs k r : Rat) * x k)
 res : ∀ r t,r < n -> t <= m -> Sm (Zck rs rr x t r)
 sq : ∀ r,r < n -> Sm (Zck rs rr x m r * Zck rs rr x m r)
 wsq : ∀ r,r < n -> Sm (Zck rs rr x m r * Zck rs rr x m r * (Zar ws r : Rat))
 sum : ∀ t,t <= n -> Sm (Zi3 rs rr ws x m t)
 c : ∀ k,k < m -> Sm ((Zbi ws (Zat rs k) (Zar rr) n : Int) : Rat)
 xc : ∀ k,k < m -> Sm (x k * ((Zbi ws (Zat rs k) (Zar rr) n : Int) : Rat))
 Zd2 : ∀ t,t <= m -> Sm (Zk5 rs rr ws x n t)
theorem Zrp {ws : List Int} {a b : Nat -> Int} : ∀ (n : Nat),(∀ r,r < n -> B40 (Zar ws r) /\ B40 (a r) /\ B40 (b r)) -> (Zbi ws a b n).natAbs <= n * (1099511627776 * (1099511627776 * 1099511627776))
 | 0,_=>by simp [Zbi]
 | n + 1,h=>by
  have ih:=Zrp n (fun r hr=>h r (by omega));obtain ⟨h1,h2,h3⟩:=h n (by omega)
  have h4 : ((Zar ws n) * (a n * b n)).natAbs <= 1099511627776 * (1099511627776 * 1099511627776):=by
   rw [Int.natAbs_mul,Int.natAbs_mul];exact Nat.mul_le_mul h1 (Nat.mul_le_mul h2 h3)
  have h5 : Zbi ws a b (n + 1) = Zbi ws a b n + Zar ws n * (a n * b n):=rfl;rw [h5,Nat.succ_mul];exact Nat.le_trans (Int.natAbs_add_le _ _) (Nat.add_le_add ih h4)
theorem Ztc : 200 * (1099511627776 * (1099511627776 * 1099511627776)) <= pw 4:=by decide +kernel
theorem Zgc {ws : List Int} {a b : Nat -> Int} {n : Nat} (hn : n <= 200) (h : ∀ r,r < n -> B40 (Zar ws r) /\ B40 (a r) /\ B40 (b r)) : (Zbi ws a b n).natAbs <= pw 4:=
 Nat.le_trans (Zrp n h) (Nat.le_trans (Nat.mul_le_mul hn (Nat.le_refl _)) Ztc)
theorem Zd3 {a b i j : Nat} (ha : a <= pw i) (hb : b <= pw j) : a * b <= pw (i + j):=by rw [Zdf];exact Nat.mul_le_mul ha hb
theorem k_pw {n : Nat} (h : n <= 4294967296) : n <= pw 1:=by
 have : pw 1 = 4294967296:=by decide +kernel
 rw [this];exact h
theorem Zti {rs : List RI} {rr ws : List Int} {x : Nat -> Rat} {n m e D Z : Nat} (hn : n <= 200) (hm : m <= 200) (hD : 0 < D) (hDe : D <= pw e) (hZe : Z <= pw e) (he : 2 * e + 20 < 1000) (hx : ∀ k,k < m -> CD D Z (x k))
    (ha : ∀ r k,r < n -> k < m -> B40 (Zat rs k r)) (hb : ∀ r,r < n -> B40 (Zar rr r)) (hw : ∀ r,r < n -> B40 (Zar ws r)) : Znn rs rr ws x n m:=by
 have w40 : ∀ z : Int,B40 z -> CD 1 (pw 2) (z : Rat):=fun z hz=>(CD.whole z).mono (Nat.le_trans hz b40_pw)
 have hD2 : D * D <= pw (e + e):=Zd3 hDe hDe;have hDD : 0 < D * D:=Nat.mul_pos hD hD
 have cf : ∀ r k,r < n -> k < m -> CD D (pw (2 + e)) ((Zat rs k r : Rat) * x k):=fun r k hr hk=>by
  have:=(w40 _ (ha r k hr hk)).mul (hx k hk);rw [Nat.one_mul] at this;exact this.mono (Zd3 (Nat.le_refl _) hZe)
 have cres : ∀ r t,r < n -> t <= m -> CD D (pw (e + 4)) (Zck rs rr x t r):=fun r t hr ht=>by
  unfold Zck;have h1:=(w40 _ (hb r hr)).liftL hD rfl;have h2:=CD.sumQ (n:=t) (f:=fun k=>(Zat rs k r : Rat) * x k) (fun k hk=>cf r k hr (by omega));refine (h1.sub h2).mono ?_;have h3 : pw 2 * D <= pw (e + 3):=Nat.le_trans (Zd3 (Nat.le_refl _) hDe) (Zbt (by omega));have h4 : t * pw (2 + e) <= pw (e + 3):=Nat.le_trans (Zd3 (k_pw (show t <= 4294967296 by omega)) (Nat.le_refl _)) (Zbt (by omega));exact Nat.le_trans (Nat.add_le_add h3 h4) (Zje (e + 3))
 have csq : ∀ r,r < n -> CD (D * D) (pw (e + 4 + (e + 4))) (Zck rs rr x m r * Zck rs rr x m r):=fun r hr =>
  ((cres r m hr (Nat.le_refl _)).mul (cres r m hr (Nat.le_refl _))).mono (Zd3 (Nat.le_refl _) (Nat.le_refl _))
 have cw : ∀ r,r < n -> CD (D * D) (pw (e + 4 + (e + 4) + 2)) (Zck rs rr x m r * Zck rs rr x m r * (Zar ws r : Rat)):=fun r hr=>by
  have:=(csq r hr).mul (w40 _ (hw r hr));rw [Nat.mul_one] at this;exact this.mono (Zd3 (Nat.le_refl _) (Nat.le_refl _))
 have csum : ∀ t,t <= n -> CD (D * D) (pw (1 + (e + 4 + (e + 4) + 2))) (Zi3 rs rr ws x m t):=fun t ht =>
  (CD.sumQ (n:=t) (f:=fun r=>Zck rs rr x m r * Zck rs rr x m r * (Zar ws r : Rat)) (fun r hr=>cw r (by omega))).mono (Zd3 (k_pw (by omega)) (Nat.le_refl _))
 have cc : ∀ a b : Nat -> Int,(∀ r,r < n -> B40 (a r) /\ B40 (b r)) -> CD 1 (pw 4) ((Zbi ws a b n : Int) : Rat):=fun a b h=>(CD.whole _).mono (Zgc hn fun r hr=>⟨hw r hr,h r hr⟩)
 have cxc : ∀ k,k < m -> CD D (pw (e + 4)) (x k * ((Zbi ws (Zat rs k) (Zar rr) n : Int) : Rat)):=fun k hk=>by
  have:=(hx k hk).mul (cc (Zat rs k) (Zar rr) (fun r hr=>⟨ha r k hr hk,hb r hr⟩));rw [Nat.mul_one] at this;exact this.mono (Zd3 hZe (Nat.le_refl _))
 have cleft : ∀ t,t <= m -> CD D (pw (e + 6)) (Zk5 rs rr ws x n t):=fun t ht=>by
  unfold Zk5;have h1:=(cc (Zar rr) (Zar rr) (fun r hr=>⟨hb r hr,hb r hr⟩)).liftL hD rfl;have h2:=CD.sumQ (n:=t) (f:=fun k=>x k * ((Zbi ws (Zat rs k) (Zar rr) n : Int) : Rat)) (fun k hk=>cxc k (by omega));refine (h1.sub h2).mono ?_;have h3 : pw 4 * D <= pw (e + 5):=Nat.le_trans (Zd3 (Nat.le_refl _) hDe) (Zbt (by omega));have h4 : t * pw (e + 4) <= pw (e + 5):=Nat.le_trans (Zd3 (k_pw (show t <= 4294967296 by omega)) (Nat.le_refl _)) (Zbt (by omega));exact Nat.le_trans (Nat.add_le_add h3 h4) (Zje (e + 5))
 refine ⟨fun k hk=>(hx k hk).sm hD hZe hDe (by omega) (by omega),fun r k hr hk=>(cf r k hr hk).sm hD (Nat.le_refl _) hDe (by omega) (by omega),fun r t hr ht=>(cres r t hr ht).sm hD (Nat.le_refl _) hDe (by omega) (by omega),
  fun r hr=>(csq r hr).sm hDD (Nat.le_refl _) hD2 (by omega) (by omega),fun r hr=>(cw r hr).sm hDD (Nat.le_refl _) hD2 (by omega) (by omega),fun t ht=>(csum t ht).sm hDD (Nat.le_refl _) hD2 (by omega) (by omega),
  fun k hk=>(cc (Zat rs k) (Zar rr) (fun r hr=>⟨ha r k hr hk,hb r hr⟩)).sm (by omega) (Nat.le_refl _) (Zbn 0) (by omega) (by omega),fun k hk=>(cxc k hk).sm hD (Nat.le_refl _) hDe (by omega) (by omega),fun t ht=>(cleft t ht).sm hD (Nat.le_refl _) hDe (by omega) (by omega)⟩
theorem sm_addA {x y z v : Int} (hx : x.natAbs < pw 1000) (hy : y.natAbs < pw 1000) (hz : z.natAbs < pw 1000) (hv : v.natAbs < pw 1000) : (x * y + z * v).natAbs < pw 4096:=by
 have h1:=Zh1 hx hy;have h2:=Zh1 hz hv;have h3:=Zri;omega
theorem Zvc (a b : Rat) : Rat.divInt (a.num * b.den + b.num * a.den) ((a.den : Int) * (b.den : Nat)) = a + b:=by
 have ha : ((a.den : Nat) : Int) ≠ 0:=by have:=a.den_pos;omega
 have hb : ((b.den : Nat) : Int) ≠ 0:=by have:=b.den_pos;omega
 rw [<- Rat.divInt_add_divInt _ _ ha hb,Rat.num_divInt_den,Rat.num_divInt_den]
theorem Zra (x y : Value) (W : World) : (callFunc 125 #[x,y]).run Tryz.prog W = .ok (.enter 125 #[x,y]) W:=by simp [go_sem]
theorem Add1_ok (na nb na' nb' : Bool) (A B A' B' : Option Addr) (n c m d n' c' m' d' : Nat) (a b : Rat) (w : World) (ha : Fr w na A n c nb B m d a) (hb : Fr w na' A' n' c' nb' B' m' d' b)
    (h1 : (a.num * b.den).natAbs < pw 4096) (h2 : (b.num * a.den).natAbs < pw 4096) (hs : (a.num * b.den + b.num * a.den).natAbs < pw 4096) (ht : ((a.den : Int) * (b.den : Nat)).natAbs < pw 4096) :
    Calls Tryz.prog 125 #[.agg #[.bool na,.slice A n c,.bool nb,.slice B m d],.agg #[.bool na',.slice A' n' c',.bool nb',.slice B' m' d']] w (Zmp w (a.num * b.den + b.num * a.den) ((a.den : Int) * (b.den : Nat))):=by
 obtain ⟨W0,hW0,hB0,⟨q0,q1,q2,q3⟩,s0⟩:=Zfi w 45 #[.bool na,.slice A n c,.bool nb,.slice B m d] 45 #[.bool na',.slice A' n' c',.bool nb',.slice B' m' d'] 43 #[.bool false,.slice none 0 0] 43 #[.bool false,.slice none 0 0]
 have hmx : Tryz.prog.follows .mixedOrders = true:=by kernel_rfl
 have hA:=Za (ha.below hB0);have hD:=Za (hb.below hB0);replace hs:=Za hs;replace ht:=Za ht;replace h1:=Za h1;replace h2:=Za h2;have sz:=Za hB0.size;have hB:=Za hB0;clear ha hb hB0 s0;replace q0:=Za q0;replace q1:=Za q1;replace q2:=Za q2;replace q3:=Za q3;obtain ⟨a0,a1,a2,a3,-⟩:=q0.out.four;obtain ⟨b0,b1,b2,b3,-⟩:=q1.out.four;replace hW0:=Za hW0;go_enter Tryz.func125,Tryz.ntmps125;go_wp2_with fail;rw [hW0.out];clear hW0;refine Zaq [19] (fun W'=>W'.cell? ⟨w.heap.size,0,none⟩ = some (.bool na) /\ W'.cell? ⟨w.heap.size,1,none⟩ = some (.slice A n c) /\ W'.cell? ⟨w.heap.size,2,none⟩ = some (.bool nb) /\ W'.cell? ⟨w.heap.size,3,none⟩ = some (.slice B m d) /\ W'.cell? ⟨w.heap.size + 1,0,none⟩ = some (.bool na') /\ W'.cell? ⟨w.heap.size + 1,1,none⟩ = some (.slice A' n' c') /\ W'.cell? ⟨w.heap.size + 1,2,none⟩ = some (.bool nb') /\ W'.cell? ⟨w.heap.size + 1,3,none⟩ = some (.slice B' m' d')) hmx ⟨a0,a1,a2,a3,b0,b1,b2,b3⟩ (fun _=>?_);refine Zix 8 [0,1,3,4,10,11,12,13] rfl (by kernel_rfl) ⟨a0,a1,a2,a3,b0,b1,b2,b3⟩ ?_
 iterate 8 (refine tk1 (v:=?_) rfl (Or.inl ⟨by kernel_rfl,?_⟩) ?_;rotate_left;(· intro W2 hSw;(try dsimp only at hSw);go_simp;try with_reducible rfl);try simp only [Act.put,Zf1,Zfp,Zfr,putG_a,putG_s,putG_z])
 refine tk0 ?_;refine Ze (i:=2) rfl (by kernel_rfl) (fun K hK=>?_);go_simp;refine (Zge na nb na' nb' A B A' B' n c m d n' c' m' d' a b W0.drew hA.out hD.out h1.out).mono ?_;rintro e w1 ⟨hb1,nu,U,k1,u,rfl,hU⟩;replace hb1:=Zq hb1;replace hU:=Za hU;replace q0:=Za (Zc hb1 q0.out);replace q1:=Za (Zc hb1 q1.out);replace q2:=Za (Zc hb1 q2.out);replace q3:=Za (Zc hb1 q3.out);replace hA:=Za (hA.out.below hb1);replace hD:=Za (hD.out.below hb1);replace hB:=Za (hB.out.trans (hb1.mono sz.out));replace sz:=Za (Nat.le_trans sz.out hb1.size);clear a0 a1 a2 a3 b0 b1 b2 b3;obtain ⟨a0,a1,a2,a3,-⟩:=q0.out.four;obtain ⟨b0,b1,b2,b3,-⟩:=q1.out.four;clear hb1;refine hK.out _ _ (fun _=>⟨a0,a1,a2,a3,b0,b1,b2,b3⟩) ?_;clear hK K
 try simp only [Act.put,Zf1,Zfp,Zfr]
 refine Ze (i:=5) rfl (by kernel_rfl) (fun K hK=>?_);go_simp;refine (Zge na' nb' na nb A' B' A B n' c' m' d' n c m d b a w1 hD.out hA.out h2.out).mono ?_;rintro e w2 ⟨hb2,nv,V,k2,v,rfl,hV⟩;replace hU:=Za (hU.out.below hb2);replace hV:=Za hV;replace q0:=Za (Zc hb2 q0.out);replace q1:=Za (Zc hb2 q1.out);replace q2:=Za (Zc hb2 q2.out);replace q3:=Za (Zc hb2 q3.out);replace hA:=Za (hA.out.below hb2);replace hD:=Za (hD.out.below hb2);replace hB:=Za (hB.out.trans (hb2.mono sz.out));replace sz:=Za (Nat.le_trans sz.out hb2.size);clear a0 a1 a2 a3 b0 b1 b2 b3;obtain ⟨a0,a1,a2,a3,-⟩:=q0.out.four;obtain ⟨b0,b1,b2,b3,-⟩:=q1.out.four;clear hb2;refine hK.out _ _ (fun _=>⟨a0,a1,a2,a3,b0,b1,b2,b3⟩) ?_;clear hK K
 try simp only [Act.put,Zf1,Zfp,Zfr]
 refine Ze (i:=6) rfl (by kernel_rfl) (fun K hK=>?_);go_simp;refine (Zqq nu nv U V k1 u k2 v _ _ w2 hU.out hV.out).mono ?_;rintro e w3 ⟨hb3,np,P,k,q,code,rfl,hR⟩;have hP:=Za (hR.small hs.out);have hcode:=hR.code0 hs.out;subst hcode;clear hs hR hU hV;replace q0:=Za (Zc hb3 q0.out);replace q1:=Za (Zc hb3 q1.out);replace q2:=Za (Zc hb3 q2.out);replace q3:=Za (Zc hb3 q3.out);replace hA:=Za (hA.out.below hb3);replace hD:=Za (hD.out.below hb3);replace hB:=Za (hB.out.trans (hb3.mono sz.out));replace sz:=Za (Nat.le_trans sz.out hb3.size);clear a0 a1 a2 a3 b0 b1 b2 b3;obtain ⟨a0,a1,a2,a3,-⟩:=q0.out.four;obtain ⟨b0,b1,b2,b3,-⟩:=q1.out.four;clear hb3;refine hK.out _ _ (fun _=>⟨a0,a1,a2,a3,b0,b1,b2,b3⟩) ?_;clear hK K
 try simp only [Act.put,Zf1,Zfp,Zfr]
 refine Zix 2 [7,8] rfl (by kernel_rfl) ⟨a0,a1,a2,a3,b0,b1,b2,b3⟩ ?_
 iterate 2 (refine tk1 (v:=?_) rfl (Or.inl ⟨by kernel_rfl,?_⟩) ?_;rotate_left;(· intro W2 hSw;(try dsimp only at hSw);go_simp;try with_reducible rfl);try simp only [Act.put,Zf1,Zfp,Zfr,putG_a,putG_s,putG_z])
 refine tk0 ?_;refine Ze (i:=9) rfl (by kernel_rfl) (fun K hK=>?_);go_simp;refine (Zdb np P k q w3).mono ?_;rintro e w4 ⟨rfl,hb4⟩;replace hP:=Za (hP.out.below hb4);replace q0:=Za (Zc hb4 q0.out);replace q1:=Za (Zc hb4 q1.out);replace q2:=Za (Zc hb4 q2.out);replace q3:=Za (Zc hb4 q3.out);replace hA:=Za (hA.out.below hb4);replace hD:=Za (hD.out.below hb4);replace hB:=Za (hB.out.trans (hb4.mono sz.out));replace sz:=Za (Nat.le_trans sz.out hb4.size);clear a0 a1 a2 a3 b0 b1 b2 b3;obtain ⟨a0,a1,a2,a3,-⟩:=q0.out.four;obtain ⟨b0,b1,b2,b3,-⟩:=q1.out.four;clear hb4;refine hK.out _ _ (fun _=>⟨a0,a1,a2,a3,b0,b1,b2,b3⟩) ?_;clear hK K
 try simp only [Act.put,Zf1,Zfp,Zfr]
 refine Ze (i:=14) rfl (by kernel_rfl) (fun K hK=>?_);go_simp;refine (Zh2 nb nb' B B' m d m' d' a.den b.den w4 hA.out.2 hD.out.2).mono ?_;rintro e w5 ⟨hb5,np',P',k',q',code,rfl,hR⟩;replace hP:=Za (hP.out.below hb5);have hP':=Za (hR.small ht.out);have hcode:=hR.code0 ht.out;subst hcode;clear ht hR;replace q0:=Za (Zc hb5 q0.out);replace q1:=Za (Zc hb5 q1.out);replace q2:=Za (Zc hb5 q2.out);replace q3:=Za (Zc hb5 q3.out);replace hA:=Za (hA.out.below hb5);replace hD:=Za (hD.out.below hb5);replace hB:=Za (hB.out.trans (hb5.mono sz.out));replace sz:=Za (Nat.le_trans sz.out hb5.size);clear a0 a1 a2 a3 b0 b1 b2 b3;obtain ⟨a0,a1,a2,a3,-⟩:=q0.out.four;obtain ⟨b0,b1,b2,b3,-⟩:=q1.out.four;clear hb5;refine hK.out _ _ (fun _=>⟨a0,a1,a2,a3,b0,b1,b2,b3⟩) ?_;clear hK K
 try simp only [Act.put,Zf1,Zfp,Zfr]
 refine Zix 2 [15,16] rfl (by kernel_rfl) ⟨a0,a1,a2,a3,b0,b1,b2,b3⟩ ?_
 iterate 2 (refine tk1 (v:=?_) rfl (Or.inl ⟨by kernel_rfl,?_⟩) ?_;rotate_left;(· intro W2 hSw;(try dsimp only at hSw);go_simp;try with_reducible rfl);try simp only [Act.put,Zf1,Zfp,Zfr,putG_a,putG_s,putG_z])
 refine tk0 ?_;refine Ze (i:=17) rfl (by kernel_rfl) (fun K hK=>?_);go_simp;refine (Zdb np' P' k' q' w5).mono ?_;rintro e w6 ⟨rfl,hb6⟩;replace hP:=Za (hP.out.below hb6);replace hP':=Za (hP'.out.below hb6);replace q0:=Za (Zc hb6 q0.out);replace q1:=Za (Zc hb6 q1.out);replace q2:=Za (Zc hb6 q2.out);replace q3:=Za (Zc hb6 q3.out);replace hA:=Za (hA.out.below hb6);replace hD:=Za (hD.out.below hb6);replace hB:=Za (hB.out.trans (hb6.mono sz.out));replace sz:=Za (Nat.le_trans sz.out hb6.size);clear a0 a1 a2 a3 b0 b1 b2 b3;obtain ⟨a0,a1,a2,a3,-⟩:=q0.out.four;obtain ⟨b0,b1,b2,b3,-⟩:=q1.out.four;clear hb6;obtain ⟨x0,x1,f0,f1⟩:=q2.out.two;refine hK.out _ _ (fun _=>⟨a0,a1,a2,a3,b0,b1,b2,b3⟩) ?_;clear hK K
 try simp only [Act.put,Zf1,Zfp,Zfr]
 refine Ze (i:=18) rfl (by kernel_rfl) (fun K hK=>?_);go_simp;obtain ⟨W5,hW5,hB5,q2',kW,kB,s5⟩:=Zay np P k q hB.out (by omega) q2.out;rw [hW5];clear hW5 x0 x1 f0 f1 a0 a1 a2 a3 b0 b1 b2 b3 hA hD;replace q0:=kB _ _ _ (by omega) q0.out;replace q1:=kB _ _ _ (by omega) q1.out;obtain ⟨a0,a1,a2,a3,-⟩:=q0.four;obtain ⟨b0,b1,b2,b3,-⟩:=q1.four;replace q3:=Za (kB _ _ _ (by omega) q3.out);replace hP:=Za (kW _ _ _ _ _ hP.out);replace hP':=Za (kW _ _ _ _ _ hP'.out);clear kW kB q2 hB q0 q1;obtain ⟨y0,y1,g0,g1⟩:=q3.out.two;refine hK.out _ _ (fun _=>⟨a0,a1,a2,a3,b0,b1,b2,b3⟩) ?_;clear hK K
 try simp only [Act.put,Zf1,Zfp,Zfr]
 refine Zv (i:=19) rfl (by kernel_rfl) (by kernel_rfl) (fun K hK=>?_);go_simp;obtain ⟨W6,hW6,hB6,q3',kW,kB,s6⟩:=Zay np' P' k' q' hB5 (by omega) q3.out;rw [hW6];clear hW6 y0 y1 g0 g1 a0 a1 a2 a3 b0 b1 b2 b3;replace q2':=kB _ _ _ (by omega) q2';replace hP:=Za (kW _ _ _ _ _ hP.out);replace hP':=Za (kW _ _ _ _ _ hP'.out);clear kW kB q3 hB5;refine hK.out _ _ ?_;clear hK K
 try simp only [Act.put,Zf1,Zfp,Zfr]
 refine Zm (by kernel_rfl) ?_ _;refine OnlyNormal.normal ?_;obtain ⟨r0,r1,-⟩:=q2'.two;obtain ⟨r2,r3,-⟩:=q3'.two;go_wp2_with fail;refine bodyPost_ret (v:=.tuple #[.agg #[.bool np,.slice P k q],.agg #[.bool np',.slice P' k' q']]) (by simp [results,Tryz.results125,go_sem,r0,r1,r2,r3]) rfl ?_;exact ⟨hB6,_,_,_,_,_,_,_,_,rfl,hP.out,hP'.out⟩
theorem fAdd_ok (na nb na' nb' : Bool) (A B A' B' : Option Addr) (n c m d n' c' m' d' : Nat) (a b : Rat) (w : World) (ha : Fr w na A n c nb B m d a) (hb : Fr w na' A' n' c' nb' B' m' d' b) (sa : Sm a) (sb : Sm b) :
    Calls Tryz.prog 68 #[.agg #[.bool na,.slice A n c,.bool nb,.slice B m d],.agg #[.bool na',.slice A' n' c',.bool nb',.slice B' m' d']] w (Zed w (a + b)):=by
 obtain ⟨W0,hW0,hB0,⟨q0,q1,q2⟩,s0⟩:=Zdp w 45 #[.bool na,.slice A n c,.bool nb,.slice B m d] 45 #[.bool na',.slice A' n' c',.bool nb',.slice B' m' d'] 45 #[.bool false,.slice none 0 0,.bool false,.slice none 0 0];have hA:=Za (ha.below hB0);have hD:=Za (hb.below hB0)
 have hF:=fun (W : World) (h1 : Fr W na A n c nb B m d a) (h2 : Fr W na' A' n' c' nb' B' m' d' b)=>Add1_ok na nb na' nb' A B A' B' n c m d n' c' m' d' a b W h1 h2 (Zce sa.1 sb.dn) (Zce sb.1 sa.dn) (sm_addA sa.1 sb.dn sb.1 sa.dn) (Zce sa.dn sb.dn)
 have hG:=Za (Zn8 125 na nb na' nb' A B A' B' n c m d n' c' m' d' a b _ _ W0 hA.out hD.out (Zcm a b) Zra hF);rw [Zvc] at hG;clear hF ha hb sa sb hA hD;obtain ⟨a0,a1,a2,a3,-⟩:=q0.four;obtain ⟨b0,b1,b2,b3,-⟩:=q1.four;replace q2:=Za q2;clear q0 q1;go_enter Tryz.func68,Tryz.ntmps68;go_wp2_with fail;refine hG.out.mono ?_;rintro e w1 ⟨hb1,nx,Ax,kx,cx,ny,Ay,ky,cy,rfl,hX⟩;have hB1 : Below w.heap.size w w1:=hB0.trans (hb1.mono hB0.size);have s1 : W0.heap.size <= w1.heap.size:=hb1.size;replace q2:=Za (Zc hb1 q2.out);replace hX:=Za hX;clear hb1 a0 a1 a2 a3 b0 b1 b2 b3 hB0 hG hW0;obtain ⟨c20,c21,c22,c23,f20,f21,f22,f23⟩:=q2.out.four;go_wp2_with fail;obtain ⟨W5,hW5,hB5,q2,kW,-,s5⟩:=Z0 nx Ax kx cx ny Ay ky cy hB1 (by omega) q2.out;rw [hW5];obtain ⟨r0,r1,r2,r3,-⟩:=q2.four;refine bodyPost_ret (v:=.tuple #[.agg #[.bool nx,.slice Ax kx cx,.bool ny,.slice Ay ky cy],.int .i64 0]) (by simp [results,Tryz.results68,go_sem,r0,r1,r2,r3]) rfl ?_;exact ⟨hB5,_,_,_,_,_,_,_,_,rfl,kW _ _ _ _ _ hX.out.1,kW _ _ _ _ _ hX.out.2⟩
end Go.Proofs.YtigdclhagmnopaaGreat
