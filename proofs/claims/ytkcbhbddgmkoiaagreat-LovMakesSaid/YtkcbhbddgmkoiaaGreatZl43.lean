/- Covariances whose elements are valid (plain). Package -/
import Derived.Test.YtkcbhbddgmkoiaaGreatZl42
set_option maxRecDepth 100000
set_option maxHeartbeats 8000000
set_option linter.unusedSimpArgs false
set_option linter.unusedVariables false
namespace Go.Proofs.YtkcbhbddgmkoiaaGreat
open Go.RowKit
def covV (rs : List RX) : Prop:=long6 rs = false /\ rs.length ≠ 0 /\ rs.all (Zb4 rs.length) = true
def FacC (rs : List RX) : Prop:=covV rs -> Zef (qM rs) = true -> FacP (Zj (qM rs)) rs.length
section
variable {w : World} {A : Option Addr} {n c : Nat} {rs : List RX}
theorem covV.facts (h : covV rs) : 0 < rs.length /\ rs.length <= 6 /\ ∀ r ∈ rs,r.n = rs.length /\ Zcz r.es = true:=by
 obtain ⟨h1,h2,h3⟩:=h;unfold long6 at h1;rw [Bool.or_eq_false_iff] at h1;have h6:=of_decide_eq_false h1.1;refine ⟨by omega,by omega,fun r hr=>?_⟩;rw [List.all_eq_true] at h3;have h7:=h3 r hr;unfold Zb4 at h7;rw [Bool.and_eq_true,decide_eq_true_eq] at h7;exact h7
theorem Zmy (h : Zbg rs = 0) : covV rs /\ Zef (qM rs) = true /\ posP (Zj (qM rs)) rs.length:=by
 obtain ⟨h1,h2,h3,h4,h5⟩:=Zm2 h;refine ⟨⟨?_,by omega,?_⟩,h4,h5⟩
 ·cases hl : long6 rs with
  | false=>rfl
  | true=>rw [Zdq hl] at h;cases h
 ·rw [List.all_eq_true]
  intro r hr;unfold Zb4;rw [Bool.and_eq_true,decide_eq_true_eq];exact h3 r hr
theorem covV.E (h : covV rs) : Zbg rs = if (Zef (qM rs) && posB (Zj (qM rs)) rs.length) = true then 0 else 8:=by
 obtain ⟨h1,h2,h3⟩:=h;unfold Zbg;rw [if_neg (by rw [h1];decide),if_neg h2,if_pos h3]
theorem covV.asym (h : covV rs) (hs : Zef (qM rs) = false) : Zbg rs = 8:=by rw [h.E,hs];rfl
theorem covV.pos (h : covV rs) (hs : Zef (qM rs) = true) (hp : posP (Zj (qM rs)) rs.length) : Zbg rs = 0:=by
 rw [h.E,hs,posB_iff.2 hp];rfl
theorem covV.neg (h : covV rs) (hs : Zef (qM rs) = true) (hp : ¬ posP (Zj (qM rs)) rs.length) : Zbg rs = 8:=by
 have : posB (Zj (qM rs)) rs.length = false:=by
  cases hb : posB (Zj (qM rs)) rs.length with
  | false=>rfl
  | true=>exact absurd (posB_iff.1 hb) hp
 rw [h.E,hs,this];rfl
theorem covV.good (hV : covV rs) (h : MXL w A n c rs) : MFL w A n c (qM rs):=h.mfl fun r hr=>Zq7 (hV.facts.2.2 r hr).2
theorem covV.row (hV : covV rs) (h : MXL w A n c rs) (i : Nat) (hi : i < n) : ((qM rs)[i]?.getD []).length = n:=by
 unfold qM;rw [List.getElem?_map,List.getElem?_eq_getElem (by rw [h.1];exact hi)];simp only [Option.map_some,Option.getD_some,List.length_map];have hr : rs[i]'(by rw [h.1];exact hi) ∈ rs:=List.getElem_mem _;have h4:=(h.2.2.2.1 _ hr).1;rw [h4,(hV.facts.2.2 _ hr).1,h.1]
theorem covV.small (hV : covV rs) (h : MXL w A n c rs) {k : Nat} (hf : fewM k rs) : SmE k (qM rs):=fun i j=>by
 unfold Zj qM;rw [List.getElem?_map]
 cases hr : rs[i]? with
 | none=>exact ⟨Nat.zero_le _,Zdi _⟩
 | some r =>
  simp only [Option.map_some,Option.getD_some,List.getElem?_map]
  cases he : r.es[j]? with
  | none=>exact ⟨Nat.zero_le _,Zdi _⟩
  | some e =>
   simp only [Option.map_some,Option.getD_some];have hrm:=List.mem_of_getElem? hr;have hem:=List.mem_of_getElem? he;have h5:=(hV.facts.2.2 r hrm).2;unfold Zcz at h5;rw [List.all_eq_true] at h5;have h6:=h5 e hem;unfold FX.fine64 at h6;rw [Bool.and_eq_true,decide_eq_true_eq] at h6;refine Zqp ((h.2.2.2.1 r hrm).2.2.2.1 e hem) h6.2 ?_
   rcases hf r hrm e hem with h7 | h7 <;> omega
theorem covV.small64 (hV : covV rs) (h : MXL w A n c rs) : SmE 64 (qM rs):=hV.small h (fun r _ e _=>Nat.lt_or_ge 64 e.few |>.symm)
theorem SmE.smC {k : Nat} {Q : List (List Rat)} (h : SmE k Q) (hk : k < 1000) (i j : Nat) : Sm (Zj Q i j):=
 ⟨Nat.lt_of_le_of_lt (h i j).1 (Zgy hk),Nat.lt_of_le_of_lt (h i j).2 (Zgy hk)⟩
theorem covV.fac (hV : covV rs) (h : MXL w A n c rs) (hs : Zef (qM rs) = true) {k : Nat} (hf : fewM k rs) (hb : (k * n + k + 1) * n + ((k * n + k + 1) * n + k * n) + 2 <= 300) : FacP (Zj (qM rs)) n:=by
 have h6:=hV.facts.2.1;have hl : (qM rs).length = n:=qM_len h;have hn : rs.length = n:=h.1;exact FacP.of (hV.small h hf) hl (by omega) (fun i hi=>hV.row h i hi) (fun i k hi hk=>symB_iff.1 hs i k (by omega) (by omega)) hb
theorem FacC.of (h : MXL w A n c rs) {k : Nat} (hf : fewM k rs) (hb : n <= 6 -> (k * n + k + 1) * n + ((k * n + k + 1) * n + k * n) + 2 <= 300) : FacC rs:=fun hV hs=>by
 have hn : rs.length = n:=h.1;rw [hn];exact hV.fac h hs hf (hb (by have:=hV.facts.2.1;omega))
theorem MFL.atS {w : World} {g o n c : Nat} {Q : List (List Rat)} (h : MFL w (some ⟨g,o,none⟩) n c Q) {k : Nat} (hk : k < n) : ∃ A' n' c',w.cell? ⟨g,o + k,none⟩ = some (.slice A' n' c') /\ FL w A' n' c' (Q[k]?.getD []):=by
 obtain ⟨g',o',A',n',c',e,h1,h2⟩:=h.at_ hk
 cases e
 exact ⟨_,_,_,h1,h2⟩
theorem cmpQ_zero {a b : Rat} : cmpQ a b = 0 ↔ a = b:=by
 unfold cmpQ
 constructor
 ·intro h
  split at h
  ·cases h
  ·split at h
   ·cases h
   ·rename_i h1 h2
    exact Rat.le_antisymm (Rat.not_lt.1 h2) (Rat.not_lt.1 h1)
 ·intro h
  subst h;rw [if_neg Rat.lt_irrefl,if_neg Rat.lt_irrefl]
end
attribute [local go_sem] Zg
theorem fCmp_ok (na nb na' nb' : Bool) (A B A' B' : Option Addr) (n c m d n' c' m' d' : Nat) (a b : Rat) (w : World) (ha : Fr w na A n c nb B m d a) (hb : Fr w na' A' n' c' nb' B' m' d' b) (sa : Sm a) (sb : Sm b) :
    Calls Tryz.prog 69 #[.agg #[.bool na,.slice A n c,.bool nb,.slice B m d],.agg #[.bool na',.slice A' n' c',.bool nb',.slice B' m' d']] w fun e w'=>e = .returned (.tuple #[.int .i64 (cmpQ a b),.int .i64 0]) /\ Below w.heap.size w w':=by
 rw [<- Zpx];obtain ⟨R,hR⟩ : ∃ R,Zbc (a.num * b.den) (b.num * a.den) = R:=⟨_,rfl⟩;rw [hR];replace hR:=Za hR
 have hmx : Tryz.prog.follows .mixedOrders = true:=by kernel_rfl
 have h1:=Za (Zbd sa.1 sb.dn);have h2:=Za (Zbd sb.1 sa.dn);obtain ⟨W0,hW0,hB0,⟨q0,q1,q2⟩,s0⟩:=Zbx w 64 #[.bool na,.slice A n c,.bool nb,.slice B m d] 64 #[.bool na',.slice A' n' c',.bool nb',.slice B' m' d'] 27 #[.int .i64 0];have hA:=Za (ha.below hB0);have hD:=Za (hb.below hB0);clear ha hb sa sb;obtain ⟨a0,a1,a2,a3,-⟩:=q0.four;have hq:=Za (And.intro q0 (And.intro q1 q2));clear q0 q1 q2
 go_enter_defers Tryz.func69,Tryz.ntmps69
 go_wp2_with fail;refine (Zch na nb A B n c m d a W0 hA.out).mono ?_;rintro e w1 ⟨rfl,hb1⟩;have hB1 : Below w.heap.size w w1:=hB0.trans (hb1.mono hB0.size);have s1 : W0.heap.size <= w1.heap.size:=hb1.size;replace hA:=Za (hA.out.below hb1);replace hD:=Za (hD.out.below hb1);obtain ⟨q0,q1,q2⟩:=hq.out;replace q0:=Zc hb1 q0;replace q1:=Zc hb1 q1;replace q2:=Zc hb1 q2;clear hW0 hq hb1 hB0 a0 a1 a2 a3;obtain ⟨b0,b1,b2,b3,-⟩:=q1.four;have hq:=Za (And.intro q0 (And.intro q1 q2));clear q0 q1 q2;go_wp2_with fail;refine (Zcp w1).mono ?_;rintro e w1 ⟨rfl,rfl⟩;go_wp2_with fail;refine (Zch na' nb' A' B' n' c' m' d' b w1 hD.out).mono ?_;rintro e w2 ⟨rfl,hb2⟩;have hB:=Za (hB1.trans (hb2.mono hB1.size));have sz:=Za hB.out.size;have s2 : w1.heap.size <= w2.heap.size:=hb2.size;replace hA:=Za (hA.out.below hb2);replace hD:=Za (hD.out.below hb2);obtain ⟨q0,q1,q2⟩:=hq.out;replace q0:=Za (Zc hb2 q0);replace q1:=Za (Zc hb2 q1);replace q2:=Za (Zc hb2 q2);clear hq hb2 hB1 b0 b1 b2 b3;go_wp2_with fail;refine (Zcp w2).mono ?_;rintro e w2 ⟨rfl,rfl⟩;obtain ⟨a0,a1,a2,a3,-⟩:=q0.out.four;obtain ⟨b0,b1,b2,b3,-⟩:=q1.out.four;go_wp2_with fail
 refine Z6 [10] (fun W'=>W'.cell? ⟨w.heap.size,0,none⟩ = some (.bool na) /\ W'.cell? ⟨w.heap.size,1,none⟩ = some (.slice A n c) /\ W'.cell? ⟨w.heap.size,2,none⟩ = some (.bool nb) /\ W'.cell? ⟨w.heap.size,3,none⟩ = some (.slice B m d) /\ W'.cell? ⟨w.heap.size + 1,0,none⟩ = some (.bool na') /\ W'.cell? ⟨w.heap.size + 1,1,none⟩ = some (.slice A' n' c') /\ W'.cell? ⟨w.heap.size + 1,2,none⟩ = some (.bool nb') /\ W'.cell? ⟨w.heap.size + 1,3,none⟩ = some (.slice B' m' d')) hmx ⟨a0,a1,a2,a3,b0,b1,b2,b3⟩ (fun _=>?_);refine Zre 4 [0,1,3,4] rfl (by kernel_rfl) ⟨a0,a1,a2,a3,b0,b1,b2,b3⟩ ?_
 iterate 4 (refine tk1 (v:=?_) rfl (Or.inl ⟨by kernel_rfl,?_⟩) ?_;rotate_left;(· intro W2 hSw;(try dsimp only at hSw);go_simp;try with_reducible rfl);try simp only [Act.put,putL_a,putL_z,putL_s,putG_a,putG_s,putG_z])
 refine tk0 ?_;refine Ze (i:=2) rfl (by kernel_rfl) (fun K hK=>?_);go_simp;refine (Zeh na nb na' nb' A B A' B' n c m d n' c' m' d' a b w2.drew hA.out hD.out h1.out).mono ?_;rintro e w3 ⟨hb3,nu,U,k1,u,rfl,hU⟩;replace hb3:=Zn hb3;replace hU:=Za hU;replace q0:=Za (Zc hb3 q0.out);replace q1:=Za (Zc hb3 q1.out);replace q2:=Za (Zc hb3 q2.out);replace hA:=Za (hA.out.below hb3);replace hD:=Za (hD.out.below hb3);replace hB:=Za (hB.out.trans (hb3.mono sz.out));replace sz:=Za (Nat.le_trans sz.out hb3.size);clear a0 a1 a2 a3 b0 b1 b2 b3;obtain ⟨a0,a1,a2,a3,-⟩:=q0.out.four;obtain ⟨b0,b1,b2,b3,-⟩:=q1.out.four;clear hb3;refine hK.out _ _ (fun _=>⟨a0,a1,a2,a3,b0,b1,b2,b3⟩) ?_;clear hK K
 try simp only [Act.put,putL_a,putL_z,putL_s]
 refine Ze (i:=5) rfl (by kernel_rfl) (fun K hK=>?_);go_simp;refine (Zeh na' nb' na nb A' B' A B n' c' m' d' n c m d b a w3 hD.out hA.out h2.out).mono ?_;rintro e w4 ⟨hb4,nv,V,k2,v,rfl,hV⟩;replace hU:=Za (hU.out.below hb4);replace hV:=Za hV;replace q0:=Za (Zc hb4 q0.out);replace q1:=Za (Zc hb4 q1.out);replace q2:=Za (Zc hb4 q2.out);replace hA:=Za (hA.out.below hb4);replace hD:=Za (hD.out.below hb4);replace hB:=Za (hB.out.trans (hb4.mono sz.out));replace sz:=Za (Nat.le_trans sz.out hb4.size);clear a0 a1 a2 a3 b0 b1 b2 b3;obtain ⟨a0,a1,a2,a3,-⟩:=q0.out.four;obtain ⟨b0,b1,b2,b3,-⟩:=q1.out.four;clear hb4;refine hK.out _ _ (fun _=>⟨a0,a1,a2,a3,b0,b1,b2,b3⟩) ?_;clear hK K
 try simp only [Act.put,putL_a,putL_z,putL_s]
 refine Ze (i:=6) rfl (by kernel_rfl) (fun K hK=>?_);go_simp;refine (Zk2 nu nv U V k1 u k2 v _ _ w4 hU.out hV.out).mono ?_;rw [hR.out];rintro e w5 ⟨rfl,hb5⟩;replace q0:=Za (Zc hb5 q0.out);replace q1:=Za (Zc hb5 q1.out);replace q2:=Za (Zc hb5 q2.out);replace hA:=Za (hA.out.below hb5);replace hD:=Za (hD.out.below hb5);replace hB:=Za (hB.out.trans (hb5.mono sz.out));replace sz:=Za (Nat.le_trans sz.out hb5.size);clear a0 a1 a2 a3 b0 b1 b2 b3;obtain ⟨a0,a1,a2,a3,-⟩:=q0.out.four;obtain ⟨b0,b1,b2,b3,-⟩:=q1.out.four;clear hb5;have x0:=q2.out.cell 0;have f0:=q2.out.frozen 0
 simp at x0
 refine hK.out _ _ (fun _=>⟨a0,a1,a2,a3,b0,b1,b2,b3⟩) ?_;clear hK K
 try simp only [Act.put,putL_a,putL_z,putL_s]
 refine Zre 3 [7,8,9] rfl (by kernel_rfl) ⟨a0,a1,a2,a3,b0,b1,b2,b3⟩ ?_
 iterate 3 (refine tk1 (v:=?_) rfl (Or.inl ⟨by kernel_rfl,?_⟩) ?_;rotate_left;(· intro W2 hSw;(try dsimp only at hSw);go_simp;try with_reducible rfl);try simp only [Act.put,putL_a,putL_z,putL_s,putG_a,putG_s,putG_z])
 refine tk0 ?_;refine Zr (i:=10) rfl (by kernel_rfl) (by kernel_rfl) (fun K hK=>?_);go_simp;obtain ⟨W6,hW6,hB6,q2',kW,kB,s6⟩:=Zbm 0 hB.out (by omega) q2.out;rw [hW6];refine hK.out _ _ ?_;clear hK K
 try simp only [Act.put,putL_a,putL_z,putL_s]
 refine Zk (by kernel_rfl) ?_ _;refine OnlyNormal.normal ?_;have r4:=q2'.cell 0
 simp at r4
 go_wp2_with fail;refine leaves_cons (f:=112) (args:=#[.pointer (some ⟨w.heap.size + 1 + 1,0,none⟩)]) (by simp) (by simp [go_sem]) ?_;refine (Zbk _ _).mono ?_;rintro e u' w'' ⟨rfl,rfl,rfl⟩;refine ⟨.tuple #[.int .i64 R,.int .i64 0],by simp [results,Tryz.results69,go_sem,r4],rfl,hB6⟩
def LookPost (rs : List RX) (w : World) (e : Ending) (w' : World) : Prop:=
 Below w.heap.size w w' /\ ((Zbg rs = 0 /\ ∃ v1 v2 L,e = .returned (.agg #[v1,v2]) /\ FacM 76 83 w' w.heap.size v1 v2 L (Zep (Zj (qM rs)) rs.length) (dsL (Zj (qM rs)) rs.length)) \/
  (Zbg rs ≠ 0 /\ e = .panicked [{ v:=.iface 119 (.agg #[.int .i64 (Zbg rs)]),recovered:=false }]))
theorem LookPost.fall {rs : List RX} {w w' : World} {E : Int} (hb : Below w.heap.size w w') (h : Zbg rs = E) (h0 : E ≠ 0) : LookPost rs w (.panicked [{ v:=.iface 119 (.agg #[.int .i64 E]),recovered:=false }]) w':=by
 subst h;exact ⟨hb,.inr ⟨h0,rfl⟩⟩
theorem Zo2 (A : Option Addr) (n c : Nat) (rs : List RX) (w : World) (h : MXL w A n c rs) (hF : FacC rs) :
    Calls Tryz.prog 33 #[.slice A n c] w (LookPost rs w):=by
 have hmx : Tryz.prog.follows .mixedOrders = true:=by kernel_rfl
 have hl:=Za h.1;have hnc:=h.2.1;have hcm:=h.2.2.1;unfold maxLen at hcm;obtain ⟨W0,hW0,hB0,q0,s0⟩:=Zaq w 78 #[.slice none 0 0,.slice none 0 0];obtain ⟨gx,hgx⟩ : ∃ g,w.heap.size = g:=⟨_,rfl⟩
 by_cases h6 : 6 < n
 ·have t1 : decide ((n : Int) <= 6) = false:=decide_eq_false (by omega)
  have hE : Hid (Zbg rs = 4):=Za (Zdq (by unfold long6;rw [hl.out,decide_eq_true h6];rfl));clear h;go_enter Tryz.func33,Tryz.ntmps33;go_wp2_with fail;(try rw [hW0]);refine (Zb8 4 W0).mono ?_;rintro e w6 ⟨rfl,rfl⟩;go_wp2_with fail;exact ⟨rfl,LookPost.fall hB0 hE.out (by decide)⟩
 have t1 : decide ((n : Int) <= 6) = true:=decide_eq_true (by omega);obtain ⟨x,hx⟩ : ∃ x,rs.any RX.long6 = x:=⟨_,rfl⟩
 have hlm : long6 rs = x:=by unfold long6;rw [hl.out,decide_eq_false h6,hx];rfl
 have hC:=Za (fun W1 (hb : Below w.heap.size w W1)=>Zno A n c rs W1 (h.below hb) x hx);replace hx:=Za hx;replace hlm:=Za hlm
 cases x
 case true =>
  have hE : Hid (Zbg rs = 4):=Za (Zdq hlm.out);clear h;go_enter Tryz.func33,Tryz.ntmps33;go_wp2_with fail;(try rw [hW0]);refine (hC.out _ hB0).mono ?_;rintro e w1 ⟨rfl,hb1⟩;go_wp2_with fail;refine (Zb8 4 w1).mono ?_;rintro e w6 ⟨rfl,rfl⟩;go_wp2_with fail;exact ⟨rfl,LookPost.fall (hB0.trans (hb1.mono hB0.size)) hE.out (by decide)⟩
 by_cases hn0 : n = 0
 ·subst hn0
  have hE : Hid (Zbg rs = 8):=Za (Zl4 hlm.out hl.out);clear h;go_enter Tryz.func33,Tryz.ntmps33;go_wp2_with fail;(try rw [hW0]);refine (hC.out _ hB0).mono ?_;rintro e w1 ⟨rfl,hb1⟩;go_wp2_with fail;refine (Zct 4 w1).mono ?_;rintro e w1 ⟨rfl,rfl⟩;go_wp2_with fail;refine (Zb8 8 w1).mono ?_;rintro e w6 ⟨rfl,rfl⟩;go_wp2_with fail;exact ⟨rfl,LookPost.fall (hB0.trans (hb1.mono hB0.size)) hE.out (by decide)⟩
 have t2 : decide ((0 : Int) < (n : Int)) = true:=decide_eq_true (by omega);have t2' : decide (0 < n) = true:=decide_eq_true (by omega);have hH:=Za h;have hq0:=Za q0;replace hn0:=Za hn0;clear h q0;go_enter Tryz.func33,Tryz.ntmps33;go_wp2_with fail;(try rw [hW0]);refine (hC.out _ hB0).mono ?_;rintro e w1 ⟨rfl,hb1⟩;have hB1:=hB0.trans (hb1.mono hB0.size);have hq1:=Za (Zc hb1 hq0.out);clear hq0 hC hb1 hB0 hW0 s0;go_wp2_with fail;refine (Zct 4 w1).mono ?_;rintro e w1 ⟨rfl,rfl⟩;go_wp2_with fail;refine (Zct 8 w1).mono ?_;rintro e w1 ⟨rfl,rfl⟩;go_wp2_with fail
 go_loopg [27] n (fun t iv wr=>∃ i : Nat,i + t = n /\ iv = .int .i64 i /\ Hid (∀ j r,j < i -> rs[j]? = some r -> Zb4 rs.length r = true) /\ Below w1.heap.size w1 wr)
 case atStart=>exact ⟨0,by omega,rfl,Za (fun j r hj=>by omega),Below.refl _ _⟩
 case round =>
  obtain ⟨wi,rfl⟩ : ∃ x : World,x = wr:=⟨_,rfl⟩;obtain ⟨i,hik,rfl,hall,hBi⟩:=hrel;have hBw:=hB1.trans (hBi.mono hB1.size)
  cases gk with
  | succ t =>
   obtain rfl : t = n - (i + 1):=by omega
   have hin : i < n:=by omega
   have t3 : decide ((i : Int) < (n : Int)) = true:=decide_eq_true (by omega)
   have bi : (i : Int) < (n : Int):=by omega
   obtain ⟨g,o,r,rfl,he,c0,hL⟩:=(hH.out.below hBw).at_ hin;have hrl:=hL.nlenC;unfold maxLen at hrl;have bad : Hid (Zb4 rs.length r = false -> Zbg rs = 8):=Za (fun hf=>Zlb hlm.out (by rw [hl.out];exact hn0.out) (List.mem_of_getElem? he) hf)
   have good : Hid (Zb4 rs.length r = true -> ∀ j r',j < i + 1 -> rs[j]? = some r' -> Zb4 rs.length r' = true):=Za (fun hf j r' hj he'=>by
    rcases Nat.lt_or_ge j i with h' | h'
    ·exact hall.out j r' h' he'
    ·obtain rfl : j = i:=by omega
     rw [he] at he'
     cases he'
     exact hf)
   replace he:=Za he
   by_cases hq : r.n = n
   case neg =>
    have t4 : ((r.n : Int) == (n : Int)) = false:=beq_eq_false_iff_ne.2 (by omega)
    have t4' : decide (r.n = n) = false:=by simpa using hq
    have hE : Hid (Zbg rs = 8):=Za (bad.out (by unfold Zb4;rw [hl.out,decide_eq_false hq];rfl));replace hq:=Za hq;clear hL;go_wp2_with fail;refine (Zb8 8 wi).mono ?_;rintro e w6 ⟨rfl,rfl⟩;go_wp2_with fail;exact ⟨rfl,LookPost.fall hBw hE.out (by decide)⟩
   have t4 : ((r.n : Int) == (n : Int)) = true:=beq_iff_eq.2 (by omega)
   have t4' : decide (r.n = n) = true:=by simpa using hq
   obtain ⟨y,hy⟩ : ∃ y,Zcz r.es = y:=⟨_,rfl⟩;have hV:=Za (fun W1 (hb : Below wi.heap.size wi W1)=>Zln r.A r.n r.c r.es W1 (hL.below hb) y hy);have hqn:=Za hq;replace hq:=Za hq;clear hL
   cases y
   ·have hE : Hid (Zbg rs = 8):=Za (bad.out (by unfold Zb4;rw [hy];simp))
    clear hy;go_wp2_with fail;refine (hV.out _ (by first | exact Below.refl _ _ | exact Zi (Below.refl _ _) _)).mono ?_;rintro e' w2 ⟨rfl,hb2⟩;go_wp2_with fail;refine (Zb8 8 w2).mono ?_;rintro e w6 ⟨rfl,rfl⟩;go_wp2_with fail;exact ⟨rfl,LookPost.fall (hBw.trans (hb2.mono hBw.size)) hE.out (by decide)⟩
   ·have hall2:=Za (good.out (by unfold Zb4;rw [hy,hl.out,hqn.out,decide_eq_true rfl];rfl))
    clear hy;go_wp2_with fail;refine (hV.out _ (by first | exact Below.refl _ _ | exact Zi (Below.refl _ _) _)).mono ?_;rintro e' w2 ⟨rfl,hb2⟩;go_wp2_with fail;refine (Zct 8 w2).mono ?_;rintro e w2 ⟨rfl,rfl⟩;go_wp2_with fail
    go_roundg (n - (i + 1))
    case measure=>omega
    case rel=>exact ⟨i + 1,by omega,by go_num,hall2,hBi.trans (hb2.mono hBi.size)⟩
  | zero =>
   obtain rfl : i = n:=by omega
   have t3 : decide ((i : Int) < (i : Int)) = false:=by simp
   have hV : Hid (covV rs):=Za ⟨hlm.out,by rw [hl.out];exact hn0.out,by
    rw [List.all_eq_true];intro r hr;obtain ⟨j,hj,e⟩:=List.getElem_of_mem hr
    exact hall.out j r (by rw [hl.out] at hj;exact hj) (by rw [List.getElem?_eq_getElem hj,e])⟩
   have hqi:=Za (Zc hBi hq1.out);have hM:=Za (hV.out.good (hH.out.below hBw));have hSm : Hid (∀ a b,Sm (Zj (qM rs) a b)):=Za (fun a b=>(hV.out.small64 hH.out).smC (by decide) a b);have hrow : Hid (∀ a,a < i -> ((qM rs)[a]?.getD []).length = i):=Za (fun a ha=>hV.out.row hH.out a ha);clear hq1;go_wp2_with fail
   go_loopg [44] i (fun t jv wr=>∃ j : Nat,j + t = i /\ jv = .int .i64 j /\ Hid (∀ a b,a < j -> b < a -> Zj (qM rs) a b = Zj (qM rs) b a) /\ Below wi.heap.size wi wr)
   case atStart=>exact ⟨0,by omega,rfl,Za (fun a b ha=>by omega),Below.refl _ _⟩
   case round =>
    obtain ⟨wj,rfl⟩ : ∃ x : World,x = wr:=⟨_,rfl⟩;obtain ⟨j,hjk,rfl,hsy,hBj⟩:=hrel;have hBwj:=hBw.trans (hBj.mono hBw.size)
    cases gk with
    | zero =>
     obtain rfl : j = i:=by omega
     have t4 : decide ((j : Int) < (j : Int)) = false:=by simp
     have hs : Hid (Zef (qM rs) = true):=Za (by
      unfold Zef;rw [decide_eq_true_eq];intro a ha b hb;rw [show (qM rs).length = j by unfold qM;rw [List.length_map,hl.out]] at ha
      exact hsy.out a b ha hb)
     have hFP : Hid (FacP (Zj (qM rs)) j):=Za (by have:=hF hV.out hs.out;rw [hl.out] at this;exact this);go_wp2_with fail;refine (Znd A j c (qM rs) wj (hM.out.below hBj) (by omega) hrow.out hFP.out).mono ?_;rintro e w5 ⟨hb5,⟨hp,v1,v2,L,rfl,hFM⟩ | ⟨hn,rfl⟩⟩
     ·have hqj:=Zc (hBj.trans (hb5.mono hBj.size)) hqi.out
      rw [hgx] at hqj;obtain ⟨A1,c1,rfl,-⟩:=hFM.1.mflA;obtain ⟨A2,c2,rfl,-⟩:=hFM.2.1.fl;rw [Zbz,Zc1] at hFM ⊢
      have y0 : w5.cell? ⟨gx,0,none⟩ = some (.slice none 0 0):=by rw [hqj.cell];rfl
      have y1 : w5.cell? ⟨gx,1,none⟩ = some (.slice none 0 0):=by rw [hqj.cell];rfl
      have z0:=hqj.frozen 0;have z1:=hqj.frozen 1;obtain ⟨X,hX⟩ : ∃ X,(w5.setCell ⟨gx,0,none⟩ (.slice A1 j c1)).setCell ⟨gx,1,none⟩ (.slice A2 j c2) = X:=⟨_,rfl⟩
      have hKX : Kept (fun k=>k = gx) w5 X:=by rw [<- hX];exact Kept.set_ (G:=fun k=>k = gx) (Kept.set_ (G:=fun k=>k = gx) (Kept.refl _ _) (p:=⟨gx,0,none⟩) (.inl rfl) _) (p:=⟨gx,1,none⟩) (.inl rfl) _
      have hbX : Blk X gx 78 #[.slice A1 j c1,.slice A2 j c2]:=by rw [<- hX];exact (hqj.set_ 0 (.slice A1 j c1)).set_ 1 (.slice A2 j c2)
      have x0 : X.cell? ⟨gx,0,none⟩ = some (.slice A1 j c1):=by rw [hbX.cell];rfl
      have x1 : X.cell? ⟨gx,1,none⟩ = some (.slice A2 j c2):=by rw [hbX.cell];rfl
      have hgj : gx < wj.heap.size:=by have:=hqi.out.lt;rw [hgx] at this;have:=hBj.size;omega
      have hFX:=Za (hFM.box hqj (Zcd _ _ _ _ _ _) hgj hKX);have hp0 : Hid (Zbg rs = 0):=Za (hV.out.pos hs.out (by rw [hl.out];exact hp));have hB5 : Hid (Below w.heap.size w w5):=Za (hBwj.trans (hb5.mono hBwj.size));have hBX : Hid (Below w.heap.size w X):=Za (hB5.out.trans (hKX.to_below (fun k e=>by omega) (by have:=hB5.out.size;exact this)));have hwj : Hid (w.heap.size <= wj.heap.size):=Za hBwj.size;clear hFM hKX hbX hqj hp;(try rw [hgx]);go_wp2_with fail;(try rw [hgx]);(try rw [hX]);refine bodyPost_ret (v:=.agg #[.slice A1 j c1,.slice A2 j c2]) (by simp [results,Tryz.results33,go_sem,x0,x1,hgx]) rfl ?_;refine ⟨hBX.out,.inl ⟨hp0.out,_,_,L,rfl,?_⟩⟩;rw [hl.out];exact hFX.out.lower hwj.out
     ·have hE : Hid (Zbg rs = 8):=Za (hV.out.neg hs.out (by rw [hl.out];exact hn))
      go_wp2_with fail;exact ⟨rfl,LookPost.fall (hBwj.trans (hb5.mono hBwj.size)) hE.out (by decide)⟩
    | succ t =>
     obtain rfl : t = i - (j + 1):=by omega
     have hji : j < i:=by omega
     have t4 : decide ((j : Int) < (i : Int)) = true:=decide_eq_true (by omega)
     have bj : (j : Int) < (i : Int):=by omega
     obtain ⟨g,o,A',n',c',rfl,c0,hR⟩:=(hM.out.below hBj).at_ hji
     have hn' : i = n':=by rw [<- hR.len];exact (hrow.out j hji).symm
     subst hn';have hrcap:=hR.cap;unfold maxLen at hrcap;replace hR:=Za hR;go_wp2_with fail
     go_loopg [50] j (fun t kv wr=>∃ k : Nat,k + t = j /\ kv = .int .i64 k /\ Hid (∀ b,b < k -> Zj (qM rs) j b = Zj (qM rs) b j) /\ Below wj.heap.size wj wr)
     case atStart=>exact ⟨0,by omega,rfl,Za (fun b hb=>by omega),Below.refl _ _⟩
     case round =>
      obtain ⟨wk,rfl⟩ : ∃ x : World,x = wr:=⟨_,rfl⟩;obtain ⟨k,hkk,rfl,hsk,hBk⟩:=hrel
      cases gk with
      | zero =>
       obtain rfl : k = j:=by omega
       have t5 : decide ((k : Int) < (k : Int)) = false:=by simp
       have hsy2 : Hid (∀ a b,a < k + 1 -> b < a -> Zj (qM rs) a b = Zj (qM rs) b a):=Za (fun a b ha hb=>by
        rcases Nat.lt_or_ge a k with h' | h'
        ·exact hsy.out a b h' hb
        ·obtain rfl : a = k:=by omega
         exact hsk.out b hb)
       go_wp2_with fail
       go_roundg (i - (k + 1))
       case measure=>omega
       case rel=>exact ⟨k + 1,by omega,by go_num,hsy2,hBj.trans (hBk.mono hBj.size)⟩
      | succ t' =>
       obtain rfl : t' = j - (k + 1):=by omega
       have hkj : k < j:=by omega
       have t5 : decide ((k : Int) < (j : Int)) = true:=decide_eq_true (by omega)
       have bk : (k : Int) < (j : Int):=by omega
       have bki : (k : Int) < (i : Int):=by omega
       have hBjk:=hBj.trans (hBk.mono hBj.size);obtain ⟨ga,oa,xn,xA,xk,xc,xm,xB,xj,xd,rfl,⟨r0,r1,r2,r3⟩,hX⟩:=(hR.out.below hBk).at_ (show k < i by omega);obtain ⟨A2,n2,c2,ck,hR2⟩:=(hM.out.below hBjk).atS (show k < i by omega)
       have hn2 : i = n2:=by rw [<- hR2.len];exact (hrow.out k (by omega)).symm
       subst hn2;have hrcap2:=hR2.cap;unfold maxLen at hrcap2;obtain ⟨gb,ob,yn,yA,yk,yc,ym,yB,yj,yd,rfl,⟨s0,s1,s2,s3⟩,hY⟩:=hR2.at_ hji;have eX : ((qM rs)[j]?.getD [])[k]?.getD 0 = Zj (qM rs) j k:=rfl;have eY : ((qM rs)[k]?.getD [])[j]?.getD 0 = Zj (qM rs) k j:=rfl;rw [eX] at hX;rw [eY] at hY;replace hX:=Za hX;replace hY:=Za hY;clear eX eY hR2;go_wp2_with fail;obtain ⟨X0,hX0⟩ : ∃ X,wk.drew = X:=⟨_,rfl⟩
       have hr1 : Below wk.heap.size wk X0:=by rw [<- hX0];exact Zi (Below.refl _ _) 1
       have hSv1 : Hid (∀ wx,Below wk.heap.size wk wx -> wx.cell? ⟨ga,oa + k * 4,none⟩ = some (.bool xn) /\ wx.cell? ⟨ga,oa + k * 4 + 1,none⟩ = some (.slice xA xk xc) /\ wx.cell? ⟨ga,oa + k * 4 + 2,none⟩ = some (.bool xm) /\ wx.cell? ⟨ga,oa + k * 4 + 3,none⟩ = some (.slice xB xj xd) /\ wx.cell? ⟨g,o + k,none⟩ = some (.slice (some ⟨gb,ob,none⟩) i c2) /\ wx.cell? ⟨gb,ob + j * 4,none⟩ = some (.bool yn) /\ wx.cell? ⟨gb,ob + j * 4 + 1,none⟩ = some (.slice yA yk yc) /\ wx.cell? ⟨gb,ob + j * 4 + 2,none⟩ = some (.bool ym) /\ wx.cell? ⟨gb,ob + j * 4 + 3,none⟩ = some (.slice yB yj yd)):=Za (fun wx hbx=>⟨Zb hbx r0,Zb hbx r1,Zb hbx r2,Zb hbx r3,Zb hbx ck,Zb hbx s0,Zb hbx s1,Zb hbx s2,Zb hbx s3⟩);refine wp_heldS [] hmx hSv1 (by rw [hX0];exact hr1) (fun hxs=>?_);rw [hX0];refine Zre 11 [0,1,2,3,4,5,6,7,8,9,10] rfl (by kernel_rfl) (hSv1.out _ hr1) ?_
       iterate 11 (refine tk1 (v:=?_) rfl (Or.inl ⟨by kernel_rfl,?_⟩) ?_;rotate_left;(· intro W2 hSw;(try dsimp only at hSw);go_simp;try with_reducible rfl);try simp only [Act.put,putL_a,putL_z,putL_s,putG_a,putG_s,putG_z])
       refine tk0 ?_;refine Ze (i:=11) rfl (by kernel_rfl) (fun K hK=>?_);go_simp;refine (fCmp_ok xn xm yn ym xA xB yA yB xk xc xj xd yk yc yj yd _ _ X0 (hX.out.below hr1) (hY.out.below hr1) (hSm.out _ _) (hSm.out _ _)).mono ?_;rintro e w5 ⟨rfl,hb5⟩;have hr5:=hr1.trans (hb5.mono hr1.size);refine hK.out _ _ (fun _=>hSv1.out _ hr5) ?_;clear hK K
       try simp only [Act.put,putL_a,putL_z,putL_s]
       refine Zrd 5 [12,13,14,15,16] rfl (by kernel_rfl) (hSv1.out _ hr5) ?_
       iterate 5 (refine tk1 (v:=?_) rfl (Or.inl ⟨by kernel_rfl,?_⟩) ?_;rotate_left;(· intro W2 _;go_simp;try with_reducible rfl);try simp only [Act.put,putL_a,putL_z,putL_s,putG_a,putG_s,putG_z])
       refine tk0 ?_;refine Zk (by kernel_rfl) ?_ _;refine OnlyNormal.normal ?_;have hB5 : Hid (Below wj.heap.size wj w5):=Za (hBk.trans (hr5.mono hBk.size));clear hSv1 hxs hr1 hr5 hb5 hX0 r0 r1 r2 r3 s0 s1 s2 s3 ck hX hY
       by_cases hq : Zj (qM rs) j k = Zj (qM rs) k j
       ·have hz : cmpQ (Zj (qM rs) j k) (Zj (qM rs) k j) = 0:=cmpQ_zero.2 hq
        rw [hz]
        have hsk2 : Hid (∀ b,b < k + 1 -> Zj (qM rs) j b = Zj (qM rs) b j):=Za (fun b hb=>by
         rcases Nat.lt_or_ge b k with h' | h'
         ·exact hsk.out b h'
         ·obtain rfl : b = k:=by omega
          exact hq)
        replace hq:=Za hq;replace hz:=Za hz;go_wp2_with fail;refine (Zct 8 w5).mono ?_;rintro e w5 ⟨rfl,rfl⟩;go_wp2_with fail
        go_roundg (j - (k + 1))
        case measure=>omega
        case rel=>exact ⟨k + 1,by omega,by go_num,hsk2,hB5.out⟩
       ·obtain ⟨z,hz⟩ : ∃ z,cmpQ (Zj (qM rs) j k) (Zj (qM rs) k j) = z:=⟨_,rfl⟩
        have hz0 : z ≠ 0:=fun e=>hq (cmpQ_zero.1 (by rw [hz];exact e))
        rw [hz]
        have t6 : (z == 0) = false:=by simpa using hz0
        have t6' : decide (z = 0) = false:=by simpa using hz0
        have hE : Hid (Zbg rs = 8):=Za (hV.out.asym (by
         cases hb : Zef (qM rs) with
         | false=>rfl
         | true=>exact absurd (symB_iff.1 hb j k (by unfold qM;rw [List.length_map,hl.out];exact hji) (by unfold qM;rw [List.length_map,hl.out];omega)) hq))
        replace hq:=Za hq;replace hz:=Za hz;replace hz0:=Za hz0;go_wp2_with fail;refine (Zb8 8 w5).mono ?_;rintro e w6 ⟨rfl,rfl⟩;go_wp2_with fail;exact ⟨rfl,LookPost.fall (hBwj.trans (hB5.out.mono hBwj.size)) hE.out (by decide)⟩
theorem Zmw (A : Option Addr) (n c : Nat) (rs : List RX) (w : World) (h : MXL w A n c rs) (hF : FacC rs) (E : Int) (hE : Zbg rs = E) :
    Calls Tryz.prog 12 #[.slice A n c] w fun e w'=>e = .returned (.int .i64 E) /\ Below w.heap.size w w':=by
 obtain ⟨W0,hW0,hB0,q0,s0⟩:=Zaq w 27 #[.int .i64 0];have hC:=Za (Zo2 A n c rs W0 (h.below hB0) hF);replace q0:=Za q0;clear h
 go_enter_defers Tryz.func12,Tryz.ntmps12
 go_wp2_with fail;(try rw [hW0]);refine hC.out.mono ?_;rintro e w1 ⟨hb1,⟨h0,v1,v2,L,rfl,hFM⟩ | ⟨h0,rfl⟩⟩
 ·have hB1:=hB0.trans (hb1.mono hB0.size)
  have q1:=Zc hb1 q0.out;have e0:=q1.cell 0;have z0:=q1.frozen 0
  simp at e0
  obtain ⟨U,hU,hBU,q3,-⟩:=Zbm 0 hB1 (Nat.le_refl _) q1;have r4:=q3.cell 0
  simp at r4
  obtain rfl : E = 0:=by rw [<- hE];exact h0
  clear hFM;go_wp2_with fail;(try rw [hU]);refine leaves_cons (f:=32) (args:=#[.pointer (some ⟨w.heap.size,0,none⟩)]) (by simp) (by simp [go_sem]) ?_;refine (Zlc _ _).mono ?_;rintro e u' w'' ⟨rfl,rfl,rfl⟩;exact ⟨.int .i64 0,by simp [results,Tryz.results12,go_sem,r4],rfl,hBU⟩
 ·have hB1:=hB0.trans (hb1.mono hB0.size)
  have q2:=Zc hb1 q0.out;rw [hE];go_wp2_with fail;refine leaves_cons (f:=32) (args:=#[.pointer (some ⟨w.heap.size,0,none⟩)]) (by simp) (by simp [go_sem]) ?_;have e0:=q2.cell 0
  simp at e0
  refine (Zmb ⟨w.heap.size,0,none⟩ E 0 _ e0 (q2.frozen 0)).mono ?_;rintro e u' w'' ⟨rfl,rfl,hw⟩;obtain ⟨V,hV,hBV,-,-,hk,sV⟩:=Z5 119 #[.int .i64 E] hB1 (hB1.size);obtain ⟨U,hU,hBU,q3,-⟩:=Zbm E hBV (Nat.le_refl _) (hk _ _ _ q2);rw [hV,hU] at hw;subst hw;have r4:=q3.cell 0
  simp at r4
  exact ⟨.int .i64 E,by simp [results,Tryz.results12,go_sem,r4],rfl,hBU⟩
end Go.Proofs.YtkcbhbddgmkoiaaGreat
