/- Package covar: Part. Reference of covar: Part. Arguments -/
import Derived.ProofKit
import Derived.Deep.Slices
import Derived.Deep.Fields
import Derived.ChangeSame
import Derived.Test.YtkcbhbddgmkoiaaGreatProg
import Derived.Test.YtkcbhbddgmkoiaaGreatZc41
import Derived.Test.YtkcbhbddgmkoiaaGreatZc44
set_option maxRecDepth 100000
set_option maxHeartbeats 8000000
set_option linter.unusedSimpArgs false
set_option linter.unusedVariables false
namespace Go.Proofs.YtkcbhbddgmkoiaaGreat
open Go.RowKit
attribute [local go_sem] Zg
def PartPost (rs : List RX) (ls : List Int) (w : World) (e : Ending) (w' : World) : Prop:=
 Below w.heap.size w w' /\ ((Zdd rs ls = 0 /\ ∃ v L,e = .returned (.tuple #[v,.int .i64 0]) /\ MatOA 41 64 w' w.heap.size v L (Zfn (qM rs) ls)) \/
  (Zdd rs ls ≠ 0 /\ e = .returned (.tuple #[.slice none 0 0,.int .i64 (Zdd rs ls)])))
theorem PartPost.fall {rs : List RX} {ls : List Int} {w w' : World} {E : Int} (hb : Below w.heap.size w w') (h : Zdd rs ls = E) (h0 : E ≠ 0) : PartPost rs ls w (.returned (.tuple #[.slice none 0 0,.int .i64 E])) w':=by
 subst h;exact ⟨hb,.inr ⟨h0,rfl⟩⟩
theorem MatOA.lowerC {tS tF : TypeId} {w : World} {b b' : Nat} {v : Value} {L : List RS} {Q : List (List Rat)} (h : MatOA tS tF w b v L Q) (hb : b' <= b) : MatOA tS tF w b' v L Q:=by
 refine ⟨?_,h.2.1,fun i r hr=>(h.2.2.1 i r hr).lower hb,h.2.2.2⟩
 rcases h.1 with h | ⟨g,sp,h1,h2,h3⟩
 ·exact .inl h
 ·exact .inr ⟨g,sp,h1,Nat.le_trans hb h2,h3⟩
theorem MatOA.boxC {tS tF : TypeId} {w w' : World} {base : Nat} {v : Value} {rs : List RS} {Q : List (List Rat)} (h : MatOA tS tF w base v rs Q) {g : Nat} {t : TypeId} {cs : Array Value} (hb : Blk w g t cs) (hn : NoLimb cs) (hg : g < base) (hk : Kept (fun k=>k = g) w w') : MatOA tS tF w' base v rs Q:=
 ⟨h.1.keptG hg hk,h.2.1,fun i r hr=>(h.2.2.1 i r hr).keptG hb hn (fun e=>by have:=(h.2.2.1 i r hr).row_ge g e;omega) hk,h.2.2.2⟩
theorem RowS.isSlP {t : TypeId} {w : World} {base : Nat} {v : Value} {rs : List RS} (h : RowS t w base v rs) : ∃ A n c,v = .slice A n c:=by
 rcases h with ⟨rfl,_⟩ | ⟨g,sp,rfl,_⟩
 ·exact ⟨_,_,_,rfl⟩
 ·exact ⟨_,_,_,rfl⟩
theorem Zpi (na : Bool) (A : Option Addr) (n c : Nat) (nb : Bool) (B : Option Addr) (m d : Nat) (w : World) : (Instr.field 83 (.agg #[.bool na,.slice A n c,.bool nb,.slice B m d]) 0).run Tryz.prog w = .ok (.agg #[.bool na,.slice A n c,.bool nb,.slice B m d]) w:=by kernel_rfl
theorem Zj6 (x : Int) : NoLimb #[.int .i64 x]:=fun i y=>by
 match i with
 | 0=>simp [limb]
 | i + 1=>simp
theorem Zj8 (A : Option Addr) (n c : Nat) (rs : List RX) (B : Option Addr) (m d : Nat) (ls : List Int) (w : World) (h : MXL w A n c rs) (hv : LimI w B m d ls) (hF : FacC rs) (hm9 : m <= 100) :
    Calls Tryz.prog 8 #[.slice A n c,.slice B m d] w (PartPost rs ls w):=by
 obtain ⟨iF,hi,hz0,hz1,hz2⟩:=info_parts Ze3;obtain ⟨iS,ki,kz0,kz1,kz2⟩:=info_parts Zgr;obtain ⟨iN,ni,nz0,nz1,nz2⟩:=info_parts Zoc
 have hmx : Tryz.prog.follows .mixedOrders = true:=by kernel_rfl
 have hts : (41 : TypeId) ≠ 64:=by decide
 have hnl:=Za h.1;have hml:=Za hv.1;have hmd:=hv.2.1;have hdm:=hv.2.2.1;have hnc:=h.2.1;have hcm:=h.2.2.1;unfold maxLen at hcm hdm;obtain ⟨W0,hW0,hB0,q0,s0⟩:=Zae w 27 #[.int .i64 0];have hs0 : Hid (W0.heap.size = w.heap.size + 1):=Za s0;have hC:=Za (Zg2 A n c rs W0 (h.below hB0) hF);have hH:=Za h;have hVH:=Za hv;replace q0:=Za q0;clear h hv s0
 go_enter_defers Tryz.func8,Tryz.ntmps8
 go_wp2_with fail;(try rw [hW0]);refine hC.out.mono ?_;rintro e w1 ⟨hb1,⟨h0,v1,v2,L0,rfl,-⟩ | ⟨h0,rfl⟩⟩
 case inr =>
  have hB1:=hB0.trans (hb1.mono hB0.size);have q2:=Zc hb1 q0.out;obtain ⟨E,hE⟩ : ∃ E,Zal rs = E:=⟨_,rfl⟩;rw [hE] at h0 ⊢;have hE0:=Za h0;have hPE:=Zjw (ls:=ls) hE h0;replace hE:=Za hE;go_wp2_with fail;refine leaves_cons (f:=32) (args:=#[.pointer (some ⟨w.heap.size,0,none⟩)]) (by simp) (by simp [go_sem]) ?_;have e0:=(q2).cell 0
  simp at e0
  refine (Zan ⟨w.heap.size,0,none⟩ E 0 _ e0 ((q2).frozen 0)).mono ?_;rintro e u' w'' ⟨rfl,rfl,hw⟩;obtain ⟨V,hV,hBV,-,-,hk,sV⟩:=Zs 119 #[.int .i64 E] (hB1) ((hB1).size);obtain ⟨U,hU,hBU,q3,-⟩:=Zam E hBV (Nat.le_refl _) (hk _ _ _ (q2));rw [hV,hU] at hw;subst hw;have r4:=q3.cell 0
  simp at r4
  exact ⟨.tuple #[.slice none 0 0,.int .i64 E],by simp [results,Tryz.results8,go_sem,r4],PartPost.fall hBU hPE (by first | decide | assumption | exact hE0.out)⟩
 have hB1:=hB0.trans (hb1.mono hB0.size);have q1:=Za (Zc hb1 q0.out);obtain ⟨hcV,hcS,hcP⟩:=Zkw h0;have hM:=Za (hcV.good hH.out);have hrow : Hid (∀ a,a < n -> ((qM rs)[a]?.getD []).length = n):=Za (fun a ha=>hcV.row hH.out a ha);have hSm : Hid (∀ a b,SmE 64 (qM rs) /\ Sm (Zh (qM rs) a b)):=Za (fun a b=>⟨hcV.small64 hH.out,(hcV.small64 hH.out).smC (by decide) a b⟩)
 have hn6 : n <= 6:=by rw [<- hnl.out];exact hcV.facts.2.1
 have hc0:=Za h0;clear h0 hcV hcS hcP q0 hC hb1 hB0 hW0
 by_cases hm0 : m = 0
 case pos =>
  subst hm0
  have t1 : decide ((0 : Int) < ((0 : Nat) : Int)) = false:=by decide
  have hPE:=Zbm hc0.out (Zj5 (n:=rs.length) hml.out);go_wp2_with fail;refine (Zad 8 w1).mono ?_;rintro e w6 ⟨rfl,rfl⟩;go_wp2_with fail;refine leaves_cons (f:=32) (args:=#[.pointer (some ⟨w.heap.size,0,none⟩)]) (by simp) (by simp [go_sem]) ?_;have e0:=(q1.out).cell 0
  simp at e0
  refine (Zan ⟨w.heap.size,0,none⟩ 8 0 _ e0 ((q1.out).frozen 0)).mono ?_;rintro e u' w'' ⟨rfl,rfl,hw⟩;obtain ⟨V,hV,hBV,-,-,hk,sV⟩:=Zs 119 #[.int .i64 8] (hB1) ((hB1).size);obtain ⟨U,hU,hBU,q3,-⟩:=Zam 8 hBV (Nat.le_refl _) (hk _ _ _ (q1.out));rw [hV,hU] at hw;subst hw;have r4:=q3.cell 0
  simp at r4
  exact ⟨.tuple #[.slice none 0 0,.int .i64 8],by simp [results,Tryz.results8,go_sem,r4],PartPost.fall hBU hPE (by first | decide | assumption | exact hE0.out)⟩
 have t1 : decide ((0 : Int) < (m : Int)) = true:=decide_eq_true (by omega);have t1' : decide (0 < m) = true:=decide_eq_true (by omega)
 by_cases hmn : m <= n
 case neg =>
  have t2 : decide ((m : Int) <= (n : Int)) = false:=decide_eq_false (by omega);have t2' : decide (m <= n) = false:=decide_eq_false hmn;have hPE:=Zbm hc0.out (Zii (n:=rs.length) (ls:=ls) (by rw [hml.out,hnl.out];omega));replace hmn:=Za hmn;replace hm0:=Za hm0;go_wp2_with fail;refine (Zad 8 w1).mono ?_;rintro e w6 ⟨rfl,rfl⟩;go_wp2_with fail;refine leaves_cons (f:=32) (args:=#[.pointer (some ⟨w.heap.size,0,none⟩)]) (by simp) (by simp [go_sem]) ?_;have e0:=(q1.out).cell 0
  simp at e0
  refine (Zan ⟨w.heap.size,0,none⟩ 8 0 _ e0 ((q1.out).frozen 0)).mono ?_;rintro e u' w'' ⟨rfl,rfl,hw⟩;obtain ⟨V,hV,hBV,-,-,hk,sV⟩:=Zs 119 #[.int .i64 8] (hB1) ((hB1).size);obtain ⟨U,hU,hBU,q3,-⟩:=Zam 8 hBV (Nat.le_refl _) (hk _ _ _ (q1.out));rw [hV,hU] at hw;subst hw;have r4:=q3.cell 0
  simp at r4
  exact ⟨.tuple #[.slice none 0 0,.int .i64 8],by simp [results,Tryz.results8,go_sem,r4],PartPost.fall hBU hPE (by first | decide | assumption | exact hE0.out)⟩
 have t2 : decide ((m : Int) <= (n : Int)) = true:=decide_eq_true (by omega);have t2' : decide (m <= n) = true:=decide_eq_true hmn;replace hm0:=Za hm0;replace hmn:=Za hmn;go_wp2_with fail;refine (Za4 8 w1).mono ?_;rintro e w1 ⟨rfl,rfl⟩;go_wp2_with fail
 go_loopg [28] m (fun t iv wr=>∃ i : Nat,i + t = m /\ iv = .int .i64 i /\ Hid (∀ k,k < i -> idxOk n ls k) /\ Below w1.heap.size w1 wr)
 case atStart=>exact ⟨0,by omega,rfl,Za (fun k hk=>by omega),Below.refl _ _⟩
 case round =>
  obtain ⟨wi,rfl⟩ : ∃ x : World,x = wr:=⟨_,rfl⟩;obtain ⟨i,hik,rfl,hall,hBi⟩:=hrel;have hBwi:=hB1.trans (hBi.mono hB1.size)
  cases gk with
  | succ t =>
   obtain rfl : t = m - (i + 1):=by omega
   have him : i < m:=by omega
   have t3 : decide ((i : Int) < (m : Int)) = true:=decide_eq_true (by omega)
   have bi : (i : Int) < (m : Int):=by omega
   have bi2 : (i : Int) <= (m : Int):=by omega
   have bi3 : (i : Int) <= (d : Int):=by omega
   have hTk:=(hVH.out.below hBwi).takeC (show i <= m by omega);obtain ⟨g,o,rfl,c0⟩:=(hVH.out.below hBwi).atC him;obtain ⟨x,hx⟩ : ∃ x,ls[i]?.getD 0 = x:=⟨_,rfl⟩;have hxI:=hVH.out.i64C i;rw [hx] at c0 hxI;have hil : Hid (i < ls.length):=Za (by rw [hml.out];exact him);have qi:=Za (Zc hBi q1.out)
   by_cases hx0 : 0 <= x
   case neg =>
    have t4 : decide ((0 : Int) <= x) = false:=decide_eq_false hx0;have hPE:=Zbm hc0.out (Zc2 (n:=rs.length) hil.out (fun h=>hx0 (by rw [<- hx];exact h.1.1)));replace hx:=Za hx;replace hx0:=Za hx0;clear hTk;go_wp2_with fail;refine (Zad 8 wi).mono ?_;rintro e w6 ⟨rfl,rfl⟩;go_wp2_with fail;refine leaves_cons (f:=32) (args:=#[.pointer (some ⟨w.heap.size,0,none⟩)]) (by simp) (by simp [go_sem]) ?_;have e0:=(qi.out).cell 0
    simp at e0
    refine (Zan ⟨w.heap.size,0,none⟩ 8 0 _ e0 ((qi.out).frozen 0)).mono ?_;rintro e u' w'' ⟨rfl,rfl,hw⟩;obtain ⟨V,hV,hBV,-,-,hk,sV⟩:=Zs 119 #[.int .i64 8] (hBwi) ((hBwi).size);obtain ⟨U,hU,hBU,q3,-⟩:=Zam 8 hBV (Nat.le_refl _) (hk _ _ _ (qi.out));rw [hV,hU] at hw;subst hw;have r4:=q3.cell 0
    simp at r4
    exact ⟨.tuple #[.slice none 0 0,.int .i64 8],by simp [results,Tryz.results8,go_sem,r4],PartPost.fall hBU hPE (by first | decide | assumption | exact hE0.out)⟩
   have t4 : decide ((0 : Int) <= x) = true:=decide_eq_true hx0
   by_cases hxn : x < n
   case neg =>
    have t5 : decide (x < (n : Int)) = false:=decide_eq_false hxn;have hPE:=Zbm hc0.out (Zc2 (n:=rs.length) hil.out (fun h=>hxn (by have:=h.1.2;rw [hx,hnl.out] at this;exact this)));replace hx:=Za hx;replace hx0:=Za hx0;replace hxn:=Za hxn;clear hTk;go_wp2_with fail;refine (Zad 8 wi).mono ?_;rintro e w6 ⟨rfl,rfl⟩;go_wp2_with fail;refine leaves_cons (f:=32) (args:=#[.pointer (some ⟨w.heap.size,0,none⟩)]) (by simp) (by simp [go_sem]) ?_;have e0:=(qi.out).cell 0
    simp at e0
    refine (Zan ⟨w.heap.size,0,none⟩ 8 0 _ e0 ((qi.out).frozen 0)).mono ?_;rintro e u' w'' ⟨rfl,rfl,hw⟩;obtain ⟨V,hV,hBV,-,-,hk,sV⟩:=Zs 119 #[.int .i64 8] (hBwi) ((hBwi).size);obtain ⟨U,hU,hBU,q3,-⟩:=Zam 8 hBV (Nat.le_refl _) (hk _ _ _ (qi.out));rw [hV,hU] at hw;subst hw;have r4:=q3.cell 0
    simp at r4
    exact ⟨.tuple #[.slice none 0 0,.int .i64 8],by simp [results,Tryz.results8,go_sem,r4],PartPost.fall hBU hPE (by first | decide | assumption | exact hE0.out)⟩
   have t5 : decide (x < (n : Int)) = true:=decide_eq_true hxn;obtain ⟨b,hb⟩ : ∃ b,decide (x ∈ ls.take i) = b:=⟨_,rfl⟩;have hCo:=Za (fun W1 (hbb : Below wi.heap.size wi W1)=>Zkh (some ⟨g,o,none⟩) i i (ls.take i) x W1 (hTk.below hbb) b hb);clear hTk
   cases b
   ·have hall2 : Hid (∀ k,k < i + 1 -> idxOk n ls k):=Za (fun k hk=>by
      rcases Nat.lt_or_ge k i with h' | h'
      ·exact hall.out k h'
      ·obtain rfl : k = i:=by omega
       refine ⟨⟨by rw [hx];exact hx0,by rw [hx];exact hxn⟩,fun j hj e=>?_⟩;refine of_decide_eq_false hb ?_;rw [<- hx]
       exact (idxOk.mem hil.out).2 ⟨j,hj,e⟩)
    replace hx:=Za hx;replace hx0:=Za hx0;replace hxn:=Za hxn;replace hb:=Za hb;go_wp2_with fail;refine (hCo.out _ (by first | exact Below.refl _ _ | exact Zj (Below.refl _ _) _)).mono ?_;rintro e w2 ⟨rfl,hb2⟩;go_wp2_with fail;refine (Za4 8 w2).mono ?_;rintro e w2 ⟨rfl,rfl⟩;go_wp2_with fail
    go_roundg (m - (i + 1))
    case measure=>omega
    case rel=>exact ⟨i + 1,by omega,by go_num,hall2,hBi.trans (hb2.mono hBi.size)⟩
   ·have hPE:=Zbm hc0.out (Zc2 (n:=rs.length) hil.out (fun h=>by
      have:=of_decide_eq_true hb;rw [<- hx] at this;obtain ⟨j,hj,e⟩:=(idxOk.mem hil.out).1 this
      exact h.2 j hj e))
    replace hx:=Za hx;replace hx0:=Za hx0;replace hxn:=Za hxn;replace hb:=Za hb;go_wp2_with fail;refine (hCo.out _ (by first | exact Below.refl _ _ | exact Zj (Below.refl _ _) _)).mono ?_;rintro e w2 ⟨rfl,hb2⟩;have qi2:=Zc hb2 qi.out;have hB2:=hBwi.trans (hb2.mono hBwi.size);go_wp2_with fail;refine (Zad 8 w2).mono ?_;rintro e w6 ⟨rfl,rfl⟩;go_wp2_with fail;refine leaves_cons (f:=32) (args:=#[.pointer (some ⟨w.heap.size,0,none⟩)]) (by simp) (by simp [go_sem]) ?_;have e0:=(qi2).cell 0
    simp at e0
    refine (Zan ⟨w.heap.size,0,none⟩ 8 0 _ e0 ((qi2).frozen 0)).mono ?_;rintro e u' w'' ⟨rfl,rfl,hw⟩;obtain ⟨V,hV,hBV,-,-,hk,sV⟩:=Zs 119 #[.int .i64 8] (hB2) ((hB2).size);obtain ⟨U,hU,hBU,q3,-⟩:=Zam 8 hBV (Nat.le_refl _) (hk _ _ _ (qi2));rw [hV,hU] at hw;subst hw;have r4:=q3.cell 0
    simp at r4
    exact ⟨.tuple #[.slice none 0 0,.int .i64 8],by simp [results,Tryz.results8,go_sem,r4],PartPost.fall hBU hPE (by first | decide | assumption | exact hE0.out)⟩
  | zero =>
   obtain rfl : m = i:=by omega
   have t3 : decide ((m : Int) < (m : Int)) = false:=by simp
   have hPE : Hid (Zdd rs ls = 0):=Za (Zmt hc0.out (Zll (by rw [hml.out];have:=hm0.out;omega) (by rw [hml.out,hnl.out];exact hmn.out) (by rw [hml.out,hnl.out];exact hall.out)));have hq2 : Hid (Blk wi w.heap.size 27 #[.int .i64 0]):=Za (Zc hBi q1.out);have hgw : Hid (w.heap.size < wi.heap.size):=Za hq2.out.lt;have hMi:=Za (hM.out.below hBwi);have hVi:=Za (hVH.out.below hBwi);clear q1;go_wp2_with fail
   go_loopg [4,54] m (fun t ov jv wr=>∃ (j : Nat) (L : List RS),j + t = m /\ jv = .int .i64 j /\ MatOA 41 64 wr wi.heap.size ov L ((Zfn (qM rs) ls).take j) /\ Below wi.heap.size wi wr)
   case atStart=>exact ⟨0,[],by omega,rfl,MatOA.nil _ _ _ _,Below.refl _ _⟩
   case round =>
    obtain ⟨wj,rfl⟩ : ∃ x : World,x = wr:=⟨_,rfl⟩;obtain ⟨j,L1,hjk,rfl,hMO,hBj⟩:=hrel;have hLl : Hid (L1.length = j):=Za (by rw [hMO.2.1,List.length_take,Ze4,hml.out];omega);obtain ⟨oA,on_,oc,rfl⟩:=hMO.1.isSlP
    cases gk with
    | zero =>
     obtain rfl : m = j:=by omega
     have t4 : decide ((m : Int) < (m : Int)) = false:=by simp
     have q5:=Zc hBj hq2.out;have hBw : Below w.heap.size w wj:=hBwi.trans (hBj.mono hBwi.size);have e0:=q5.cell 0;have z0:=q5.frozen 0
     simp at e0
     obtain ⟨U,hU,hBU,q3,-⟩:=Zam 0 hBw (Nat.le_refl _) q5;have r4:=q3.cell 0
     simp at r4
     have hKU : Kept (fun k=>k = w.heap.size) wj U:=by rw [<- hU];exact Kept.set_ (G:=fun k=>k = w.heap.size) (Kept.refl _ _) (p:=⟨w.heap.size,0,none⟩) (.inl rfl) _
     have hMU:=Za ((hMO.boxC q5 (Zj6 _) hgw.out hKU).lowerC (Nat.le_of_lt hgw.out));replace hMO:=Za hMO;clear hKU q5;go_wp2_with fail;(try rw [hU]);refine leaves_cons (f:=32) (args:=#[.pointer (some ⟨w.heap.size,0,none⟩)]) (by simp) (by simp [go_sem]) ?_;refine (Zel _ _).mono ?_;rintro e u' w'' ⟨rfl,rfl,rfl⟩;refine ⟨.tuple #[.slice oA on_ oc,.int .i64 0],by simp [results,Tryz.results8,go_sem,r4],hBU,.inl ⟨hPE.out,_,L1,rfl,?_⟩⟩;have h1:=hMU.out;rw [List.take_of_length_le (by rw [Ze4,hml.out];exact Nat.le_refl _)] at h1;exact h1
    | succ t =>
     obtain rfl : t = m - (j + 1):=by omega
     have hjm : j < m:=by omega
     have t4 : decide ((j : Int) < (m : Int)) = true:=decide_eq_true (by omega)
     have bj : (j : Int) < (m : Int):=by omega
     obtain ⟨gl,ol,rfl,c0⟩:=(hVi.out.below hBj).atC hjm;obtain ⟨a,ha⟩ : ∃ a : Nat,ls[j]?.getD 0 = (a : Int):=⟨(ls[j]?.getD 0).toNat,by have:=(hall.out j hjm).1.1;omega⟩
     have han : a < n:=by have:=(hall.out j hjm).1.2;omega
     rw [ha] at c0
     have ban : (a : Int) < (n : Int):=by omega
     have hjl : Hid (j < ls.length):=Za (by rw [hml.out];exact hjm);have hrowj : Hid (Zau (qM rs) ls (ls[j]?.getD 0) = ls.map fun b=>Zh (qM rs) a b.toNat):=Za (by unfold Zau;rw [ha];rfl);have hmk:=Zqn (P:=Tryz.prog) 41 64 Tryz.underlying41 hi hz0 hz1 hz2 m (by omega) wj;have hOm:=Zo0 64 wj m (by unfold maxLen;omega);obtain ⟨V1,hV1⟩ : ∃ V,wj.alloc (.cells (Z3 (List.replicate m Zag)) 64) = V:=⟨_,rfl⟩
     have hBV : Below wj.heap.size wj V1:=by rw [<- hV1];exact (Below.refl _ _).alloc (Nat.le_refl _) _
     rw [hV1] at hOm hmk;have c0':=Zb hBV c0;replace ha:=Za ha;replace hMO:=Za hMO;replace hOm:=Za hOm;go_wp2_with fail;clear hmk c0 c0'
     go_loopg [10,63] m (fun t rv kv wr=>∃ k : Nat,k + t = m /\ kv = .int .i64 k /\ OwnF 64 wr wj.heap.size rv ((Zau (qM rs) ls (ls[j]?.getD 0)).take k) /\ Below wj.heap.size wj wr)
     case atStart=>exact ⟨0,by omega,rfl,by simpa using hOm.out,hBV⟩
     case round =>
      clear hOm hV1 hBV V1;obtain ⟨wk,rfl⟩ : ∃ x : World,x = wr:=⟨_,rfl⟩;obtain ⟨k,hkm,rfl,hO,hBk⟩:=hrel;have hBjk : Below wi.heap.size wi wk:=hBj.trans (hBk.mono hBj.size);obtain ⟨rA,rc,e9,hrF⟩:=hO.fl
      have hrl : ((Zau (qM rs) ls (ls[j]?.getD 0)).take k).length = k:=by rw [List.length_take,Zdj,hml.out];omega
      rw [hrl] at e9 hrF;subst e9
      cases gk with
      | zero =>
       obtain rfl : m = k:=by omega
       have t5 : decide ((m : Int) < (m : Int)) = false:=by simp
       have hMk:=hMO.out.kept hBk
       have hlt : Hid (∀ s ∈ L1,∀ k',s.val.ownBlock = some k' -> k' < wj.heap.size):=Za (fun s hs k' hk'=>by
        obtain ⟨q,hq,e⟩:=List.getElem_of_mem hs
        exact (hMO.out.2.2.1 q s (by rw [List.getElem?_eq_getElem hq,e])).blt k' hk')
       obtain ⟨Y1,hY1⟩ : ∃ Y,wk.alloc (.cells #[.slice rA m rc] 41) = Y:=⟨_,rfl⟩;obtain ⟨gz,hgz⟩ : ∃ g,wk.heap.size = g:=⟨_,rfl⟩
       have hBY : Below wk.heap.size wk Y1:=by rw [<- hY1];exact (Below.refl _ _).alloc (Nat.le_refl _) _
       have hbY : Blk Y1 gz 41 #[.slice rA m rc]:=by rw [<- hY1,<- hgz];exact Blk.new _ _ _
       have hMY:=hMk.kept hBY;have hOY:=hO.kept hBY;have hBiY : Below wi.heap.size wi Y1:=hBjk.trans (hBY.mono hBjk.size)
       have hll : L1.length + 1 <= 1000:=by rw [hLl.out];omega
       have hown:=hMY.1;have hsz:=hBiY.size;replace hO:=Za hO;replace hMk:=Za hMk;replace hOY:=Za hOY;clear hrF;go_wp2_with ((try rw [hY1]);(try rw [hgz]);at_builtin;refine Zbq _ rfl (.tmp 83) (.tmp 85) 22 rfl wi.heap.size 41 iS Tryz.underlying22 ki kz0 kz1 kz2 _ L1 rfl hown _ (some ⟨gz,0,none⟩) 1 1 [⟨rA,m,rc⟩] rfl (Zb1 hbY) rfl hll hsz ?_;intro v5 w5 hR5 hg5 hk5);have hM5:=hMY.snoc hts (r:=⟨rA,m,rc⟩) hOY.out hBj.size hlt.out hR5 hg5 hk5;have hB5:=hBiY.grown hg5 hsz (fun k hk=>hown.row_ge k hk);have hfull : (Zau (qM rs) ls (ls[j]?.getD 0)).take m = Zau (qM rs) ls (ls[j]?.getD 0):=List.take_of_length_le (by rw [Zdj,hml.out];exact Nat.le_refl _);rw [hfull,Zia hjl.out] at hM5;replace hM5:=Za hM5
       go_roundg (m - (j + 1))
       case measure=>omega
       case rel=>exact ⟨j + 1,_,by omega,by go_num,hM5.out,hB5⟩
      | succ t' =>
       obtain rfl : t' = m - (k + 1):=by omega
       have hkm' : k < m:=by omega
       have t5 : decide ((k : Int) < (m : Int)) = true:=decide_eq_true (by omega)
       have bk : (k : Int) < (m : Int):=by omega
       have y0:=(hVi.out.below hBjk).atCS hkm';obtain ⟨b,hb⟩ : ∃ b : Nat,ls[k]?.getD 0 = (b : Int):=⟨(ls[k]?.getD 0).toNat,by have:=(hall.out k hkm').1.1;omega⟩
       have hbn : b < n:=by have:=(hall.out k hkm').1.2;omega
       rw [hb] at y0
       have bbn : (b : Int) < (n : Int):=by omega
       obtain ⟨g1,o1,A',n',c',rfl,k0,hR⟩:=hMi.out.at_ han
       have hn' : n = n':=by rw [<- hR.len];exact (hrow.out a han).symm
       subst hn';have hrcap:=hR.cap;unfold maxLen at hrcap;obtain ⟨g2,o2,xn,xA,xk,xc,xm,xB,xj,xd,rfl,⟨x0,x1,x2,x3⟩,hX⟩:=hR.at_ hbn;have eX : ((qM rs)[a]?.getD [])[b]?.getD 0 = Zh (qM rs) a b:=rfl;rw [eX] at hX
       have hsucc : Hid ((Zau (qM rs) ls (ls[j]?.getD 0)).take k ++ [Zh (qM rs) a b * ((1 : Int) : Rat)] = (Zau (qM rs) ls (ls[j]?.getD 0)).take (k + 1)):=Za (by
        have h1:=Zgt (Q:=qM rs) (a:=ls[j]?.getD 0) (k:=k) (ls:=ls) (by rw [hml.out];exact hkm');rw [ha.out,hb] at h1;rw [ha.out,<- h1]
        congr 2
        simp)
       replace hX:=Za hX;replace hb:=Za hb;replace hO:=Za hO;have z0:=Zb hBjk k0;have z1:=Zb hBjk x0;have z2:=Zb hBjk x1;have z3:=Zb hBjk x2;have z4:=Zb hBjk x3;clear eX hR hrF;go_wp2_with fail;clear z0 z1 z2 z3 z4;obtain ⟨X0,hX0⟩ : ∃ X,wk.drew = X:=⟨_,rfl⟩
       have hr1 : Below wk.heap.size wk X0:=by rw [<- hX0];exact Zj (Below.refl _ _) 1
       have hSv : Hid (∀ wx,Below wi.heap.size wi wx -> wx.cell? ⟨g1,o1 + a,none⟩ = some (.slice (some ⟨g2,o2,none⟩) n c') /\ wx.cell? ⟨g2,o2 + b * 4,none⟩ = some (.bool xn) /\ wx.cell? ⟨g2,o2 + b * 4 + 1,none⟩ = some (.slice xA xk xc) /\ wx.cell? ⟨g2,o2 + b * 4 + 2,none⟩ = some (.bool xm) /\ wx.cell? ⟨g2,o2 + b * 4 + 3,none⟩ = some (.slice xB xj xd)):=Za (fun wx hbx=>⟨Zb hbx k0,Zb hbx x0,Zb hbx x1,Zb hbx x2,Zb hbx x3⟩);have hw1 : Below wi.heap.size wi X0:=hBjk.trans (hr1.mono hBjk.size);refine wp_heldS [] hmx hSv (by rw [hX0];exact hw1) (fun hxs=>?_);rw [hX0];refine Zru 8 [0,1,2,3,4,5,6,7] rfl (by kernel_rfl) (hSv.out _ hw1) ?_
       iterate 8 (refine tk1 (v:=?_) rfl (Or.inl ⟨by kernel_rfl,?_⟩) ?_;rotate_left;(· intro W2 hSw;(try dsimp only at hSw);go_simp;try with_reducible rfl);try simp only [Act.put,putL_a,putL_z,putL_s,putG_a,putG_s,putG_z])
       refine tk0 ?_;refine Zrt 1 [8] rfl (by kernel_rfl) (hSv.out _ hw1) ?_
       (refine tk1 (v:=?_) rfl (Or.inl ⟨by kernel_rfl,?_⟩) ?_;rotate_left;(· intro W2 _;go_simp;try with_reducible rfl);try simp only [Act.put,putL_a,putL_z,putL_s,putG_a,putG_s,putG_z])
       refine tk0 ?_;refine Ze (i:=9) rfl (by kernel_rfl) (fun K hK=>?_);go_simp;refine (Zh1 1 X0 (by decide) (by decide)).mono ?_;rintro e w5 ⟨hb5,pn,pA,pk,pc,pm,pB,pj,pd,rfl,hP⟩;have hr5:=hr1.trans (hb5.mono hr1.size);have hw5:=hBjk.trans (hr5.mono hBjk.size);refine hK.out _ _ (fun _=>hSv.out _ hw5) ?_;clear hK K
       try simp only [Act.put,putL_a,putL_z,putL_s]
       obtain ⟨Y1,hY1⟩ : ∃ Y,w5.alloc (.cells #[.bool pn,.slice pA pk pc,.bool pm,.slice pB pj pd] 83) = Y:=⟨_,rfl⟩;obtain ⟨ga1,hga1⟩ : ∃ g,w5.heap.size = g:=⟨_,rfl⟩
       have hBY : Below w5.heap.size w5 Y1:=by rw [<- hY1];exact (Below.refl _ _).alloc (Nat.le_refl _) _
       have hbY : Blk Y1 ga1 83 #[.bool pn,.slice pA pk pc,.bool pm,.slice pB pj pd]:=by rw [<- hY1,<- hga1];exact Blk.new _ _ _
       have hrY:=hr5.trans (hBY.mono hr5.size);have hwY:=hBjk.trans (hrY.mono hBjk.size);refine Ze (i:=10) rfl (by kernel_rfl) (fun K hK=>?_);go_simp;(try rw [hY1]);(try rw [hga1]);refine hK.out _ _ (fun _=>hSv.out _ hwY) ?_;clear hK K hY1 hga1
       try simp only [Act.put,putL_a,putL_z,putL_s]
       refine Ze (i:=11) rfl (by kernel_rfl) (fun K hK=>?_);go_simp;refine (Zff xn xA xk xc xm xB xj xd (Zh (qM rs) a b) (some ⟨ga1,0,none⟩) 1 1 [((1 : Int) : Rat)] Y1 (hX.out.below hwY) (FL.sing1 hbY (hP.below hBY)) (by omega) (fun t ht=>?_) (fun t ht=>?_)).mono ?_
       ·obtain rfl : t = 0:=by omega
        exact (hSm.out a b).2
       ·obtain rfl : t = 0:=by omega
        exact ⟨by show (1 : Nat) < _;rw [show (1000 : Nat) = 999 + 1 by rfl,Zah];have:=Zca 999;omega,by show (1 : Nat) < _;rw [show (1000 : Nat) = 999 + 1 by rfl,Zah];have:=Zca 999;omega⟩
       rintro e w6 ⟨hb6,un,uA,uk,uc,um,uB,uj,ud,rfl,hU⟩;have hr6:=hrY.trans (hb6.mono hrY.size);have hw6:=hBjk.trans (hr6.mono hBjk.size);refine hK.out _ _ (fun _=>hSv.out _ hw6) ?_;clear hK K
       try simp only [Act.put,putL_a,putL_z,putL_s]
       have hfd:=Zpi un uA uk uc um uB uj ud;refine Zrt 1 [12] rfl (by kernel_rfl) (hSv.out _ hw6) ?_
       (refine tk1 (v:=?_) rfl (Or.inl ⟨by kernel_rfl,?_⟩) ?_;rotate_left;(· intro W2 _;go_simp;try with_reducible rfl);try simp only [Act.put,putL_a,putL_z,putL_s,putG_a,putG_s,putG_z])
       refine tk0 ?_;obtain ⟨Y2,hY2⟩ : ∃ Y,w6.alloc (.cells #[.bool un,.slice uA uk uc,.bool um,.slice uB uj ud] 64) = Y:=⟨_,rfl⟩;obtain ⟨ga2,hga2⟩ : ∃ g,w6.heap.size = g:=⟨_,rfl⟩
       have hBY2 : Below w6.heap.size w6 Y2:=by rw [<- hY2];exact (Below.refl _ _).alloc (Nat.le_refl _) _
       have hbY2 : Blk Y2 ga2 64 #[.bool un,.slice uA uk uc,.bool um,.slice uB uj ud]:=by rw [<- hY2,<- hga2];exact Blk.new _ _ _
       have hrY2:=hr6.trans (hBY2.mono hr6.size);have hwY2:=hBjk.trans (hrY2.mono hBjk.size);refine Ze (i:=13) rfl (by kernel_rfl) (fun K hK=>?_);go_simp;(try rw [hY2]);(try rw [hga2]);refine hK.out _ _ (fun _=>hSv.out _ hwY2) ?_;clear hK K hY2 hga2
       try simp only [Act.put,putL_a,putL_z,putL_s]
       have hOY:=hO.out.kept hrY2;have hUY:=hU.below hBY2;have hsz : wj.heap.size <= Y2.heap.size:=Nat.le_trans hBk.size hrY2.size;have hjY : Below wj.heap.size wj Y2:=hBk.trans (hrY2.mono hBk.size);refine Ze (i:=14) rfl (by kernel_rfl) (fun K hK=>?_);rw [if_pos (by rfl)];refine Zy _ (.tmp 67) (.tmp 80) 41 rfl wj.heap.size 64 iF Tryz.underlying41 hi hz0 hz1 hz2 (.slice rA k rc) _ rfl hOY _ (some ⟨ga2,0,none⟩) 1 1 [⟨un,uA,uk,uc,um,uB,uj,ud,Zh (qM rs) a b * ((1 : Int) : Rat)⟩] rfl (Zak _ hbY2) rfl (by intro e he;rw [List.mem_singleton] at he;subst he;exact hUY) (by rw [hrl];omega) hsz ?_;intro v7 w7 hO7 hg7 hk7 hw7;have hj7:=hjY.grown hg7 hsz (fun k hk=>hOY.row_ge k hk);have hi7 : Below wi.heap.size wi w7:=hBj.trans (hj7.mono hBj.size);simp only [List.map_cons,List.map_nil] at hO7;rw [hsucc.out] at hO7;refine hK.out _ _ (fun _=>hSv.out _ hi7) ?_;clear hK K
       try simp only [Act.put,putL_a,putL_z,putL_s]
       refine Zrt 1 [15] rfl (by kernel_rfl) (hSv.out _ hi7) ?_
       (refine tk1 (v:=?_) rfl (Or.inl ⟨by kernel_rfl,?_⟩) ?_;rotate_left;(· intro W2 _;go_simp;try with_reducible rfl);try simp only [Act.put,putL_a,putL_z,putL_s,putG_a,putG_s,putG_z])
       refine tk0 ?_;refine Zk (by kernel_rfl) ?_ _;refine OnlyNormal.normal ?_;replace hO7:=Za hO7;clear hOY hUY hbY2 hBY2 hbY hBY hU hP hX0;go_wp2_with fail
       go_roundg (m - (k + 1))
       case measure=>omega
       case rel=>exact ⟨k + 1,by omega,by go_num,hO7.out,hj7⟩
theorem Zhh (A : Option Addr) (n c : Nat) (rs : List RX) (B : Option Addr) (m d : Nat) (ls : List Int) (w : World) (h : MXL w A n c rs) (hv : LimI w B m d ls) (hF : FacC rs) (hm9 : m <= 100) :
    Calls Tryz.prog 9 #[.slice A n c,.slice B m d] w (PartPost rs ls w):=by
 obtain ⟨iF,hi,hz0,hz1,hz2⟩:=info_parts Ze3;obtain ⟨iS,ki,kz0,kz1,kz2⟩:=info_parts Zgr
 have hmx : Tryz.prog.follows .mixedOrders = true:=by kernel_rfl
 have hts : (41 : TypeId) ≠ 64:=by decide
 have hnl:=Za h.1;have hml:=Za hv.1;have hmd:=hv.2.1;have hdm:=hv.2.2.1;have hnc:=h.2.1;have hcm:=h.2.2.1;unfold maxLen at hcm hdm;obtain ⟨E,hE⟩ : ∃ E,Zal rs = E:=⟨_,rfl⟩;have hC:=Za (fun W1 (hb : Below w.heap.size w W1)=>Zcf A n c rs W1 (h.below hb) hF E hE);have hH:=Za h;have hVH:=Za hv;clear h hv
 by_cases h0 : E = 0
 case neg =>
  have t0 : (E == 0) = false:=by simpa using h0
  have t0' : decide (E = 0) = false:=by simpa using h0
  have t0'' : (E != 0) = true:=by rw [bne,t0];rfl
  have hE0:=Za h0;have hPE:=Zjw (ls:=ls) hE h0;replace hE:=Za hE;replace h0:=Za h0;go_enter Tryz.func9,Tryz.ntmps9;go_wp2_with fail;refine (hC.out _ (Below.refl _ _)).mono ?_;rintro e w1 ⟨rfl,hb1⟩;go_wp2_with fail;refine (hC.out _ hb1).mono ?_;rintro e w2 ⟨rfl,hb2⟩;go_wp2_with fail;go_returns;exact PartPost.fall (hb1.trans (hb2.mono hb1.size)) hPE hE0.out
 subst h0;obtain ⟨hcV,hcS,hcP⟩:=Zkw hE;have hM:=Za (hcV.good hH.out);have hrow : Hid (∀ a,a < n -> ((qM rs)[a]?.getD []).length = n):=Za (fun a ha=>hcV.row hH.out a ha)
 have hn6 : n <= 6:=by rw [<- hnl.out];exact hcV.facts.2.1
 have hc0:=Za hE;clear hE hcV hcS hcP;go_enter Tryz.func9,Tryz.ntmps9;go_wp2_with fail;refine (hC.out _ (Below.refl _ _)).mono ?_;rintro e w1 ⟨rfl,hB1⟩;clear hC
 by_cases hm0 : m = 0
 case pos =>
  subst hm0;have hPE:=Zbm hc0.out (Zj5 (n:=rs.length) hml.out);go_wp2_with fail;go_returns;exact PartPost.fall hB1 hPE (by decide)
 have t1 : ((m : Int) == 0) = false:=by simp;omega
 have t1' : decide (m = 0) = false:=by simpa using hm0
 by_cases hmn : m <= n
 case neg =>
  have t2 : decide ((n : Int) < (m : Int)) = true:=decide_eq_true (by omega);have t2' : decide (n < m) = true:=decide_eq_true (by omega);have hPE:=Zbm hc0.out (Zii (n:=rs.length) (ls:=ls) (by rw [hml.out,hnl.out];omega));replace hmn:=Za hmn;replace hm0:=Za hm0;go_wp2_with fail;go_returns;exact PartPost.fall hB1 hPE (by decide)
 have t2 : decide ((n : Int) < (m : Int)) = false:=decide_eq_false (by omega);have t2' : decide (n < m) = false:=decide_eq_false (by omega);replace hm0:=Za hm0;replace hmn:=Za hmn;go_wp2_with fail
 go_loopg [6] m (fun t iv wr=>∃ i : Nat,i + t = m /\ iv = .int .i64 i /\ Hid (∀ k,k < i -> idxOk n ls k) /\ Below w.heap.size w wr)
 case atStart=>exact ⟨0,by omega,rfl,Za (fun k hk=>by omega),hB1⟩
 case round =>
  clear hB1;obtain ⟨wi,rfl⟩ : ∃ x : World,x = wr:=⟨_,rfl⟩;obtain ⟨i,hik,rfl,hall,hBwi⟩:=hrel
  cases gk with
  | succ t =>
   obtain rfl : t = m - (i + 1):=by omega
   have him : i < m:=by omega
   have t3 : decide ((i : Int) < (m : Int)) = true:=decide_eq_true (by omega)
   have bi : (i : Int) < (m : Int):=by omega
   obtain ⟨g,o,rfl,c0⟩:=(hVH.out.below hBwi).atC him;obtain ⟨x,hx⟩ : ∃ x,ls[i]?.getD 0 = x:=⟨_,rfl⟩;rw [hx] at c0;have hil : Hid (i < ls.length):=Za (by rw [hml.out];exact him)
   by_cases hx0 : x < 0
   case pos =>
    have t4 : decide (x < 0) = true:=decide_eq_true hx0;have hPE:=Zbm hc0.out (Zc2 (n:=rs.length) hil.out (fun h=>by have:=h.1.1;rw [hx] at this;omega));replace hx:=Za hx;replace hx0:=Za hx0;go_wp2_with fail;go_returns;exact PartPost.fall hBwi hPE (by decide)
   have t4 : decide (x < 0) = false:=decide_eq_false hx0
   by_cases hxn : x < n
   case neg =>
    have t5 : decide ((n : Int) <= x) = true:=decide_eq_true (by omega);have hPE:=Zbm hc0.out (Zc2 (n:=rs.length) hil.out (fun h=>hxn (by have:=h.1.2;rw [hx,hnl.out] at this;exact this)));replace hx:=Za hx;replace hx0:=Za hx0;replace hxn:=Za hxn;go_wp2_with fail;go_returns;exact PartPost.fall hBwi hPE (by decide)
   have t5 : decide ((n : Int) <= x) = false:=decide_eq_false (by omega);replace hx0:=Za hx0;replace hxn:=Za hxn;go_wp2_with fail
   go_loopg [7] i (fun t kv wr=>∃ k : Nat,k + t = i /\ kv = .int .i64 k /\ Hid (∀ j : Nat,j < k -> ls[j]?.getD 0 ≠ x) /\ Below w.heap.size w wr)
   case atStart=>exact ⟨0,by omega,rfl,Za (fun j hj=>by omega),hBwi⟩
   case round =>
    clear c0 hBwi;obtain ⟨wk,rfl⟩ : ∃ x : World,x = wr:=⟨_,rfl⟩;obtain ⟨k,hki,rfl,hne,hBk⟩:=hrel
    cases gk with
    | zero =>
     obtain rfl : i = k:=by omega
     have t6 : decide ((i : Int) < (i : Int)) = false:=by simp
     have hall2 : Hid (∀ k,k < i + 1 -> idxOk n ls k):=Za (fun k hk=>by
      rcases Nat.lt_or_ge k i with h' | h'
      ·exact hall.out k h'
      ·obtain rfl : k = i:=by omega
       refine ⟨⟨by rw [hx];have:=hx0.out;omega,by rw [hx];exact hxn.out⟩,fun j hj e=>hne.out j hj (by rw [e,hx])⟩)
     replace hx:=Za hx;go_wp2_with fail
     go_roundg (m - (i + 1))
     case measure=>omega
     case rel=>exact ⟨i + 1,by omega,by go_num,hall2,hBk⟩
    | succ t' =>
     obtain rfl : t' = i - (k + 1):=by omega
     have hki' : k < i:=by omega
     have t6 : decide ((k : Int) < (i : Int)) = true:=decide_eq_true (by omega)
     have bk : (k : Int) < (m : Int):=by omega
     have c1:=(hVH.out.below hBk).atCS him;have c2:=(hVH.out.below hBk).atCS (show k < m by omega);rw [hx] at c1;obtain ⟨y,hy⟩ : ∃ y,ls[k]?.getD 0 = y:=⟨_,rfl⟩;rw [hy] at c2;replace hx:=Za hx;go_wp2_with fail;obtain ⟨X0,hX0⟩ : ∃ X,wk.drew = X:=⟨_,rfl⟩
     have hr1 : Below wk.heap.size wk X0:=by rw [<- hX0];exact Zj (Below.refl _ _) 1
     have hw1 : Hid (Below w.heap.size w X0):=Za (hBk.trans (hr1.mono hBk.size));have hSv1 : Hid (∀ wx,Below wk.heap.size wk wx -> wx.cell? ⟨g,o + k,none⟩ = some (.int .i64 y) /\ wx.cell? ⟨g,o + i,none⟩ = some (.int .i64 x)):=Za (fun wx hbx=>⟨Zb hbx c2,Zb hbx c1⟩);refine wp_heldS [] hmx hSv1 (by rw [hX0];exact hr1) (fun hxs=>?_);rw [hX0];refine Zru 8 [0,1,2,3,4,5,6,7] rfl (by kernel_rfl) (hSv1.out _ hr1) ?_
     iterate 8 (refine tk1 (v:=?_) rfl (Or.inl ⟨by kernel_rfl,?_⟩) ?_;rotate_left;(· intro W2 hSw;(try dsimp only at hSw);go_simp;try with_reducible rfl);try simp only [Act.put,putL_a,putL_z,putL_s,putG_a,putG_s,putG_z])
     refine tk0 ?_;refine Zrt 1 [8] rfl (by kernel_rfl) (hSv1.out _ hr1) ?_
     (refine tk1 (v:=?_) rfl (Or.inl ⟨by kernel_rfl,?_⟩) ?_;rotate_left;(· intro W2 _;go_simp;try with_reducible rfl);try simp only [Act.put,putL_a,putL_z,putL_s,putG_a,putG_s,putG_z])
     refine tk0 ?_;refine Zk (by kernel_rfl) ?_ _;refine OnlyNormal.normal ?_;clear hSv1 hxs hr1 hX0 c1 c2
     by_cases hyx : y = x
     ·have t7 : (y == x) = true:=by simp [hyx]
      have t7' : decide (y = x) = true:=by simpa using hyx
      have hPE:=Zbm hc0.out (Zc2 (n:=rs.length) hil.out (fun h=>h.2 k hki' (by rw [hx.out,hy];exact hyx)));replace hyx:=Za hyx;replace hy:=Za hy;go_wp2_with fail;go_returns;exact PartPost.fall hw1.out hPE (by decide)
     ·have t7 : (y == x) = false:=by simpa using hyx
      have t7' : decide (y = x) = false:=by simpa using hyx
      have hne2 : Hid (∀ j : Nat,j < k + 1 -> ls[j]?.getD 0 ≠ x):=Za (fun j hj=>by
       rcases Nat.lt_or_ge j k with h' | h'
       ·exact hne.out j h'
       ·obtain rfl : j = k:=by omega
        rw [hy];exact hyx)
      replace hyx:=Za hyx;replace hy:=Za hy;replace hx:=hx.out;go_wp2_with fail
      go_roundg (i - (k + 1))
      case measure=>omega
      case rel=>exact ⟨k + 1,by omega,by go_num,hne2,hw1.out⟩
  | zero =>
   obtain rfl : m = i:=by omega
   have t3 : decide ((m : Int) < (m : Int)) = false:=by simp
   have hPE : Hid (Zdd rs ls = 0):=Za (Zmt hc0.out (Zll (by rw [hml.out];have:=hm0.out;omega) (by rw [hml.out,hnl.out];exact hmn.out) (by rw [hml.out,hnl.out];exact hall.out)));have hMi:=Za (hM.out.below hBwi);have hVi:=Za (hVH.out.below hBwi);go_wp2_with fail
   go_loopg [8,9] m (fun t ov jv wr=>∃ (j : Nat) (L : List RS),j + t = m /\ jv = .int .i64 j /\ MatOA 41 64 wr wi.heap.size ov L ((Zfn (qM rs) ls).take j) /\ Below wi.heap.size wi wr)
   case atStart=>exact ⟨0,[],by omega,rfl,MatOA.nil _ _ _ _,Below.refl _ _⟩
   case round =>
    obtain ⟨wj,rfl⟩ : ∃ x : World,x = wr:=⟨_,rfl⟩;obtain ⟨j,L1,hjk,rfl,hMO,hBj⟩:=hrel;have hLl : Hid (L1.length = j):=Za (by rw [hMO.2.1,List.length_take,Ze4,hml.out];omega);obtain ⟨oA,on_,oc,rfl⟩:=hMO.1.isSlP
    cases gk with
    | zero =>
     obtain rfl : m = j:=by omega
     have t4 : decide ((m : Int) < (m : Int)) = false:=by simp
     have hBw : Below w.heap.size w wj:=hBwi.trans (hBj.mono hBwi.size);replace hMO:=Za hMO;go_wp2_with fail;go_returns;refine ⟨hBw,.inl ⟨hPE.out,_,L1,rfl,?_⟩⟩;have h1:=hMO.out.lowerC hBwi.size;rw [List.take_of_length_le (by rw [Ze4,hml.out];exact Nat.le_refl _)] at h1;exact h1
    | succ t =>
     obtain rfl : t = m - (j + 1):=by omega
     have hjm : j < m:=by omega
     have t4 : decide ((j : Int) < (m : Int)) = true:=decide_eq_true (by omega)
     have bj : (j : Int) < (m : Int):=by omega
     obtain ⟨gl,ol,rfl,l0⟩:=hVi.out.atC hjm;obtain ⟨a,ha⟩ : ∃ a : Nat,ls[j]?.getD 0 = (a : Int):=⟨(ls[j]?.getD 0).toNat,by have:=(hall.out j hjm).1.1;omega⟩
     have han : a < n:=by have:=(hall.out j hjm).1.2;omega
     rw [ha] at l0
     have ban : (a : Int) < (n : Int):=by omega
     have hjl : Hid (j < ls.length):=Za (by rw [hml.out];exact hjm);replace ha:=Za ha;replace hMO:=Za hMO;go_wp2_with fail
     go_loopg [10,11] m (fun t rv kv wr=>∃ k : Nat,k + t = m /\ kv = .int .i64 k /\ OwnF 64 wr wj.heap.size rv ((Zau (qM rs) ls (ls[j]?.getD 0)).take k) /\ Below wj.heap.size wj wr)
     case atStart=>exact ⟨0,by omega,rfl,by simpa using OwnF.nil 64 wj wj.heap.size,Below.refl _ _⟩
     case round =>
      obtain ⟨wk,rfl⟩ : ∃ x : World,x = wr:=⟨_,rfl⟩;obtain ⟨k,hkm,rfl,hO,hBk⟩:=hrel;have hBjk : Below wi.heap.size wi wk:=hBj.trans (hBk.mono hBj.size);obtain ⟨rA,rc,e9,hrF⟩:=hO.fl
      have hrl : ((Zau (qM rs) ls (ls[j]?.getD 0)).take k).length = k:=by rw [List.length_take,Zdj,hml.out];omega
      rw [hrl] at e9 hrF;subst e9
      cases gk with
      | zero =>
       obtain rfl : m = k:=by omega
       have t5 : decide ((m : Int) < (m : Int)) = false:=by simp
       have hMk:=hMO.out.kept hBk
       have hlt : Hid (∀ s ∈ L1,∀ k',s.val.ownBlock = some k' -> k' < wj.heap.size):=Za (fun s hs k' hk'=>by
        obtain ⟨q,hq,e⟩:=List.getElem_of_mem hs
        exact (hMO.out.2.2.1 q s (by rw [List.getElem?_eq_getElem hq,e])).blt k' hk')
       obtain ⟨Y1,hY1⟩ : ∃ Y,wk.alloc (.cells #[.slice rA m rc] 41) = Y:=⟨_,rfl⟩;obtain ⟨gz,hgz⟩ : ∃ g,wk.heap.size = g:=⟨_,rfl⟩
       have hBY : Below wk.heap.size wk Y1:=by rw [<- hY1];exact (Below.refl _ _).alloc (Nat.le_refl _) _
       have hbY : Blk Y1 gz 41 #[.slice rA m rc]:=by rw [<- hY1,<- hgz];exact Blk.new _ _ _
       have hMY:=hMk.kept hBY;have hOY:=hO.kept hBY;have hBiY : Below wi.heap.size wi Y1:=hBjk.trans (hBY.mono hBjk.size)
       have hll : L1.length + 1 <= 1000:=by rw [hLl.out];omega
       have hown:=hMY.1;have hsz:=hBiY.size;replace hO:=Za hO;replace hMk:=Za hMk;replace hOY:=Za hOY;clear hrF;go_wp2_with ((try rw [hY1]);(try rw [hgz]);at_builtin;refine Zbq _ rfl (.tmp 89) (.tmp 91) 22 rfl wi.heap.size 41 iS Tryz.underlying22 ki kz0 kz1 kz2 _ L1 rfl hown _ (some ⟨gz,0,none⟩) 1 1 [⟨rA,m,rc⟩] rfl (Zb1 hbY) rfl hll hsz ?_;intro v5 w5 hR5 hg5 hk5);have hM5:=hMY.snoc hts (r:=⟨rA,m,rc⟩) hOY.out hBj.size hlt.out hR5 hg5 hk5;have hB5:=hBiY.grown hg5 hsz (fun k hk=>hown.row_ge k hk);have hfull : (Zau (qM rs) ls (ls[j]?.getD 0)).take m = Zau (qM rs) ls (ls[j]?.getD 0):=List.take_of_length_le (by rw [Zdj,hml.out];exact Nat.le_refl _);rw [hfull,Zia hjl.out] at hM5;replace hM5:=Za hM5
       go_roundg (m - (j + 1))
       case measure=>omega
       case rel=>exact ⟨j + 1,_,by omega,by go_num,hM5.out,hB5⟩
      | succ t' =>
       obtain rfl : t' = m - (k + 1):=by omega
       have hkm' : k < m:=by omega
       have t5 : decide ((k : Int) < (m : Int)) = true:=decide_eq_true (by omega)
       have bk : (k : Int) < (m : Int):=by omega
       have y0:=hVi.out.atCS hkm';obtain ⟨b,hb⟩ : ∃ b : Nat,ls[k]?.getD 0 = (b : Int):=⟨(ls[k]?.getD 0).toNat,by have:=(hall.out k hkm').1.1;omega⟩
       have hbn : b < n:=by have:=(hall.out k hkm').1.2;omega
       rw [hb] at y0
       have bbn : (b : Int) < (n : Int):=by omega
       obtain ⟨g1,o1,A',n',c',rfl,k0,hR⟩:=hMi.out.at_ han
       have hn' : n = n':=by rw [<- hR.len];exact (hrow.out a han).symm
       subst hn';have hrcap:=hR.cap;unfold maxLen at hrcap;obtain ⟨g2,o2,xn,xA,xk,xc,xm,xB,xj,xd,rfl,⟨x0,x1,x2,x3⟩,hX⟩:=hR.at_ hbn;have eX : ((qM rs)[a]?.getD [])[b]?.getD 0 = Zh (qM rs) a b:=rfl;rw [eX] at hX
       have hsucc : Hid ((Zau (qM rs) ls (ls[j]?.getD 0)).take k ++ [Zh (qM rs) a b] = (Zau (qM rs) ls (ls[j]?.getD 0)).take (k + 1)):=Za (by
        have h1:=Zgt (Q:=qM rs) (a:=ls[j]?.getD 0) (k:=k) (ls:=ls) (by rw [hml.out];exact hkm');rw [ha.out,hb] at h1;rw [ha.out,<- h1]
        congr 2)
       replace hX:=Za hX;replace hb:=Za hb;replace hO:=Za hO;have z0:=Zb hBjk k0;have z1:=Zb hBjk x0;have z2:=Zb hBjk x1;have z3:=Zb hBjk x2;have z4:=Zb hBjk x3;have z5:=Zb hBjk l0;have z6:=Zb hBjk y0;clear eX hR hrF;go_wp2_with fail;clear z0 z1 z2 z3 z4 z5 z6;obtain ⟨X0,hX0⟩ : ∃ X,wk.drew = X:=⟨_,rfl⟩
       have hr1 : Below wk.heap.size wk X0:=by rw [<- hX0];exact Zj (Below.refl _ _) 1
       have hSv : Hid (∀ wx,Below wi.heap.size wi wx -> wx.cell? ⟨gl,ol + j,none⟩ = some (.int .i64 (a : Int)) /\ wx.cell? ⟨gl,ol + k,none⟩ = some (.int .i64 (b : Int)) /\ wx.cell? ⟨g1,o1 + a,none⟩ = some (.slice (some ⟨g2,o2,none⟩) n c') /\ wx.cell? ⟨g2,o2 + b * 4,none⟩ = some (.bool xn) /\ wx.cell? ⟨g2,o2 + b * 4 + 1,none⟩ = some (.slice xA xk xc) /\ wx.cell? ⟨g2,o2 + b * 4 + 2,none⟩ = some (.bool xm) /\ wx.cell? ⟨g2,o2 + b * 4 + 3,none⟩ = some (.slice xB xj xd)):=Za (fun wx hbx=>⟨Zb hbx l0,Zb hbx y0,Zb hbx k0,Zb hbx x0,Zb hbx x1,Zb hbx x2,Zb hbx x3⟩);have hw1 : Below wi.heap.size wi X0:=hBjk.trans (hr1.mono hBjk.size);refine wp_heldS [] hmx hSv (by rw [hX0];exact hw1) (fun hxs=>?_);rw [hX0];refine Zru 14 [0,1,2,3,4,5,6,7,8,9,10,11,12,13] rfl (by kernel_rfl) (hSv.out _ hw1) ?_
       iterate 14 (refine tk1 (v:=?_) rfl (Or.inl ⟨by kernel_rfl,?_⟩) ?_;rotate_left;(· intro W2 hSw;(try dsimp only at hSw);go_simp;try with_reducible rfl);try simp only [Act.put,putL_a,putL_z,putL_s,putG_a,putG_s,putG_z])
       refine tk0 ?_;obtain ⟨Y2,hY2⟩ : ∃ Y,X0.alloc (.cells #[.bool xn,.slice xA xk xc,.bool xm,.slice xB xj xd] 64) = Y:=⟨_,rfl⟩;obtain ⟨ga2,hga2⟩ : ∃ g,X0.heap.size = g:=⟨_,rfl⟩
       have hBY2 : Below X0.heap.size X0 Y2:=by rw [<- hY2];exact (Below.refl _ _).alloc (Nat.le_refl _) _
       have hbY2 : Blk Y2 ga2 64 #[.bool xn,.slice xA xk xc,.bool xm,.slice xB xj xd]:=by rw [<- hY2,<- hga2];exact Blk.new _ _ _
       have hrY2:=hr1.trans (hBY2.mono hr1.size);have hwY2:=hBjk.trans (hrY2.mono hBjk.size);refine Ze (i:=14) rfl (by kernel_rfl) (fun K hK=>?_);go_simp;(try rw [hY2]);(try rw [hga2]);refine hK.out _ _ (fun _=>hSv.out _ hwY2) ?_;clear hK K hY2 hga2
       try simp only [Act.put,putL_a,putL_z,putL_s]
       have hOY:=hO.out.kept hrY2;have hUY:=hX.out.below hwY2;have hsz : wj.heap.size <= Y2.heap.size:=Nat.le_trans hBk.size hrY2.size;have hjY : Below wj.heap.size wj Y2:=hBk.trans (hrY2.mono hBk.size);refine Ze (i:=15) rfl (by kernel_rfl) (fun K hK=>?_);rw [if_pos (by rfl)];refine Zy _ (.tmp 73) (.tmp 87) 41 rfl wj.heap.size 64 iF Tryz.underlying41 hi hz0 hz1 hz2 (.slice rA k rc) _ rfl hOY _ (some ⟨ga2,0,none⟩) 1 1 [⟨xn,xA,xk,xc,xm,xB,xj,xd,Zh (qM rs) a b⟩] rfl (Zak _ hbY2) rfl (by intro e he;rw [List.mem_singleton] at he;subst he;exact hUY) (by rw [hrl];omega) hsz ?_;intro v7 w7 hO7 hg7 hk7 hw7;have hj7:=hjY.grown hg7 hsz (fun k hk=>hOY.row_ge k hk);have hi7 : Below wi.heap.size wi w7:=hBj.trans (hj7.mono hBj.size);simp only [List.map_cons,List.map_nil] at hO7;rw [hsucc.out] at hO7;refine hK.out _ _ (fun _=>hSv.out _ hi7) ?_;clear hK K
       try simp only [Act.put,putL_a,putL_z,putL_s]
       refine Zrt 1 [16] rfl (by kernel_rfl) (hSv.out _ hi7) ?_
       (refine tk1 (v:=?_) rfl (Or.inl ⟨by kernel_rfl,?_⟩) ?_;rotate_left;(· intro W2 _;go_simp;try with_reducible rfl);try simp only [Act.put,putL_a,putL_z,putL_s,putG_a,putG_s,putG_z])
       refine tk0 ?_;refine Zk (by kernel_rfl) ?_ _;refine OnlyNormal.normal ?_;replace hO7:=Za hO7;clear hOY hUY hbY2 hBY2 hX0;go_wp2_with fail
       go_roundg (m - (k + 1))
       case measure=>omega
       case rel=>exact ⟨k + 1,by omega,by go_num,hO7.out,hj7⟩
open Go.ChangeShapes Go.WideShapes Go.Deep Go.RowKit
section
variable {H : Type} {enc : TypeId × Value -> H} {P : Program} {w : World} {base : Nat} {spare : Nat -> Bool} {held : Bool}
end
section
variable {H : Type} {enc : TypeId × Value -> H} {P : Program}
theorem Zi9 {f : Func} {s : ChangeSpec} {apart fresh handsOn again : Bool} {W W' : World} {args : Array Value} {v : Value} {ds gs : List (DataW H)} {before pa pv : List MemPlace}
    (hW : DataW.Whole enc P f.params.toList s.vars apart W args.toList ds gs before)
    (hres : ∀ (b : Nat) (sp : Nat -> Bool) (hd : Bool),DataW.TrodAll enc P W' b sp hd f.resultTypes.toList (v.resultList f.resultTypes.size) (s.fn H (ds ++ gs)).results [])
    (hargs : ∀ sp : Nat -> Bool,(∀ p ∈ before,sp p.block = true) -> DataW.TrodAll enc P W' 0 sp true f.params.toList args.toList (s.fn H (ds ++ gs)).args pa)
    (hvars : ∀ sp : Nat -> Bool,(∀ p ∈ before,sp p.block = true) -> DataW.TrodVars enc P W' sp s.vars (s.fn H (ds ++ gs)).vars pv)
    (hps : before = pa ++ pv) (hb : Below W.heap.size W W')
    (hok : ∀ (j : Nat) (t : TypeId) (r : Value),f.resultTypes[j]? = some t -> (v.resultList f.resultTypes.size)[j]? = some r -> Value.okWide P W' .any 0 t r) :
    s.post enc P f apart fresh handsOn again W args v W':=by
 have hlt : ∀ p ∈ before,p.block < W.heap.size:=fun p hp=>hW.lt p hp
 have hold : ∀ p ∈ before,(fun b=>decide (b < W.heap.size)) p.block = true:=fun p hp=>by simpa using hlt p hp
 refine ⟨ds,gs,before,[],pa,pv,hW,hres _ _ _,hargs _ hold,hvars _ hold,World.keptBut_mono (fun p hp=>⟨hp,?_⟩) (hb.frame (· ∈ before)),fun _=>?_⟩
 ·rw [hps,List.mem_append] at hp
  exact Or.inr hp
 ·obtain ⟨_,_,_,_,_,hz,hn⟩:=hW
  refine ⟨hok,_,_,([] ++ pa) ++ pv,⟨[] ++ pa,pv,trodAll_append (hargs _ (fun _ _=>rfl)) (hres _ _ _),hvars _ (fun _ _=>rfl),rfl,?_,?_⟩,?_⟩
  ·intro b off hp
   have hin : MemPlace.cell b off ∈ before:=by rw [hps];simpa using hp
   rw [hb.frozen (hlt _ hin)];exact hz b off hin
  ·intro ha
   have:=hn ha;rw [hps] at this
   simpa using this
  ·intro p hp _
   rw [hps]
   simpa using hp
end
theorem Zhs {α : Type} (P : Nat -> α -> Prop) (n : Nat) (h : ∀ i,i < n -> ∃ e,P i e) : ∃ es : List α,es.length = n /\ ∀ (k : Nat) (e : α),es[k]? = some e -> P k e:=by
 induction n with
 | zero=>exact ⟨[],rfl,fun k e h=>by simp at h⟩
 | succ n ih =>
  obtain ⟨es,h1,h2⟩:=ih fun i hi=>h i (by omega)
  obtain ⟨e,he⟩:=h n (by omega);refine ⟨es ++ [e],by simp [h1],fun k e' hk=>?_⟩
  rcases Nat.lt_or_ge k es.length with hlt | hge
  ·rw [List.getElem?_append_left hlt] at hk;exact h2 k e' hk
  ·rw [List.getElem?_append_right hge] at hk
   rcases Nat.eq_or_lt_of_le hge with h0 | h0
   ·rw [show k - es.length = 0 by omega] at hk
    simp at hk
    subst hk;rw [<- h0,h1];exact he
   ·rw [List.getElem?_eq_none (by simp;omega)] at hk
    cases hk
theorem Zc9 {w : World} {a : Addr} {v : Value} (h : w.cell? a = some v) : a = ⟨a.block,a.off,none⟩:=by
 obtain ⟨b,o,s⟩:=a
 cases s with
 | none=>rfl
 | some s =>
  exfalso
  unfold World.cell? at h
  simp at h
  split at h <;> simp at h
section
variable {H : Type} {enc : TypeId × Value -> H} {w : World} {base : Nat} {spare : Nat -> Bool} {held : Bool}
end
theorem Fr.rawC {w : World} {na : Bool} {A : Option Addr} {n c : Nat} {nb : Bool} {B : Option Addr} {m d : Nat} {r : Rat} (h : Fr w na A n c nb B m d r) : okF na (digits r.num.natAbs) nb (digits r.den) = true /\ qOf na (digits r.num.natAbs) (digits r.den) = r:=by
 have h1:=h.1.ok;have h2:=h.2.ok;have h3:=h.1.sgEq;rw [Int.natAbs_natCast] at h2;have hd:=r.den_pos;have hr:=r.reduced;unfold Nat.Coprime at hr;refine ⟨?_,?_⟩
 ·unfold okF
  rw [h1,h2,h.neg,Zf,Zf]
  simp [length_digits_pos,hd,hr]
 ·unfold qOf
  rw [h3,Zf];exact Rat.num_divInt_den r
def fewQ (q : Rat) : Nat:=max (digits q.num.natAbs).length (digits q.den).length
def sigF (e : FX) : Nat × Bool × Rat:=(e.few,e.ok,e.q)
def Zml (r : RX) : Nat × List (Nat × Bool × Rat):=(r.n,r.es.map sigF)
def Zgs (rs : List RX) : List (Nat × List (Nat × Bool × Rat)):=rs.map Zml
def sigQ (Q : List (List Rat)) : List (Nat × List (Nat × Bool × Rat)):=Q.map fun r=>(r.length,r.map fun q=>(fewQ q,true,q))
theorem sig_len {rs rt : List RX} (h : Zgs rs = Zgs rt) : rs.length = rt.length:=by
 have:=congrArg List.length h
 simpa [Zgs] using this
theorem Zrn {rs : List RX} : qM rs = (Zgs rs).map fun x=>x.2.map fun y=>y.2.2:=by
 unfold qM Zgs;rw [List.map_map]
 refine List.map_congr_left fun r _=>?_
 simp [Zml,sigF,Function.comp_def]
theorem Zlq {rs : List RX} : long6 rs = (decide (6 < (Zgs rs).length) || (Zgs rs).any fun x=>decide (6 < x.1)):=by
 unfold long6 Zgs;rw [List.length_map,List.any_map];rfl
theorem sig_row {k : Nat} {r : RX} : Zbo k r = (decide ((Zml r).1 = k) && (Zml r).2.all fun y=>decide (y.1 <= 64) && y.2.1):=by
 unfold Zbo Zcr Zml;simp only [List.all_map]
 rfl
theorem Zmk {k : Nat} {rs : List RX} : rs.all (Zbo k) = (Zgs rs).all fun x=>decide (x.1 = k) && x.2.all fun y=>decide (y.1 <= 64) && y.2.1:=by
 unfold Zgs;rw [List.all_map]
 congr 1
 funext r
 exact sig_row
theorem Zrg {rs rt : List RX} (h : Zgs rs = Zgs rt) : Zal rs = Zal rt:=by
 unfold Zal;rw [Zlq,Zlq (rs:=rt),Zmk,Zmk (rs:=rt),Zrn,Zrn (rs:=rt),sig_len h,h]
theorem FL.fxs {w : World} {A : Option Addr} {n c : Nat} {qs : List Rat} (h : FL w A n c qs) : ∃ es,FXL w A n c es /\ es.map FX.q = qs /\ es.map sigF = qs.map fun q=>(fewQ q,true,q):=by
 obtain ⟨fs,h1,h2,h3,h4,rfl,h5⟩:=h
 have hk : ∀ e ∈ fs,FX.in_ w ⟨e.na,e.A,e.n,e.c,digits e.q.num.natAbs,e.nb,e.B,e.m,e.d,digits e.q.den⟩ /\ FX.q ⟨e.na,e.A,e.n,e.c,digits e.q.num.natAbs,e.nb,e.B,e.m,e.d,digits e.q.den⟩ = e.q /\ sigF ⟨e.na,e.A,e.n,e.c,digits e.q.num.natAbs,e.nb,e.B,e.m,e.d,digits e.q.den⟩ = (fewQ e.q,true,e.q):=fun e he=>by
  have h0 : Fr w e.na e.A e.n e.c e.nb e.B e.m e.d e.q:=h4 e he;have h2:=h0.2.2.2;rw [Int.natAbs_natCast] at h2;have h6:=h0.rawC;refine ⟨⟨h0.1.2.2,h2⟩,h6.2,?_⟩;unfold sigF FX.few FX.ok FX.q fewQ;rw [h6.1,h6.2];have e1:=h0.1.2.2.len;have e2:=h2.len;rw [e1,e2]
 refine ⟨fs.map fun e=>⟨e.na,e.A,e.n,e.c,digits e.q.num.natAbs,e.nb,e.B,e.m,e.d,digits e.q.den⟩,⟨by rw [List.length_map];exact h1,h2,h3,fun x hx=>?_,fun hn=>?_⟩,?_,?_⟩
 ·obtain ⟨e,he,rfl⟩:=List.mem_map.1 hx
  exact (hk e he).1
 ·obtain ⟨g,o,e1,hc⟩:=h5 hn
  refine ⟨g,o,e1,fun k x hx=>?_⟩;rw [List.getElem?_map] at hx;obtain ⟨e,he,rfl⟩:=Option.map_eq_some_iff.1 hx;exact hc k e he
 ·rw [List.map_map]
  exact List.map_congr_left fun e he=>(hk e he).2.1
 ·rw [List.map_map,List.map_map]
  exact List.map_congr_left fun e he=>(hk e he).2.2
theorem MFL.mxs {w : World} {A : Option Addr} {n c : Nat} {Q : List (List Rat)} (h : MFL w A n c Q) : ∃ rs,MXL w A n c rs /\ qM rs = Q /\ Zgs rs = sigQ Q:=by
 obtain ⟨h1,h2,h3,h4⟩:=h
 rcases Nat.eq_zero_or_pos n with h0 | h0
 ·subst h0
  obtain rfl : Q = []:=List.eq_nil_of_length_eq_zero h1;exact ⟨[],⟨rfl,h2,h3,fun r hr=>(by cases hr),fun hn=>absurd hn (Nat.lt_irrefl _)⟩,rfl,rfl⟩
 ·obtain ⟨g,o,rfl,hc⟩:=h4 h0
  obtain ⟨rs,r1,r2⟩:=Zhs (fun i (r : RX)=>w.cell? ⟨g,o + i,none⟩ = some (.slice r.A r.n r.c) /\ FXL w r.A r.n r.c r.es /\ r.es.map FX.q = Q[i]?.getD [] /\ Zml r = ((Q[i]?.getD []).length,(Q[i]?.getD []).map fun q=>(fewQ q,true,q))) n (fun i hi=>by
   have hq : Q[i]? = some Q[i]:=List.getElem?_eq_getElem (by omega);obtain ⟨A',n',c',k0,hF⟩:=hc i _ hq;obtain ⟨es,e1,e2,e3⟩:=hF.fxs;refine ⟨⟨A',n',c',es⟩,k0,e1,by rw [hq];exact e2,?_⟩;rw [hq,Option.getD_some];unfold Zml
   rw [e3,hF.len])
  have ext : ∀ {α : Type} (f : RX -> α) (g : List Rat -> α),(∀ (i : Nat) (r : RX),rs[i]? = some r -> f r = g (Q[i]?.getD [])) -> rs.map f = Q.map g:=fun f g hfg=>by
   apply List.ext_getElem?
   intro i;rw [List.getElem?_map,List.getElem?_map]
   by_cases hi : i < n
   ·have hr:=List.getElem?_eq_getElem (l:=rs) (i:=i) (by omega)
    have hq : Q[i]? = some Q[i]:=List.getElem?_eq_getElem (by omega);have:=hfg i _ hr;rw [hq,Option.getD_some] at this;rw [hr,hq,Option.map_some,Option.map_some,this]
   ·rw [List.getElem?_eq_none (l:=rs) (by omega),List.getElem?_eq_none (l:=Q) (by omega)];rfl
  refine ⟨rs,⟨r1,h2,h3,fun r hr=>?_,fun _=>⟨g,o,rfl,fun k r hk=>(r2 k r hk).1⟩⟩,?_,ext Zml (fun r=>(r.length,r.map fun q=>(fewQ q,true,q))) (fun i r hr=>(r2 i r hr).2.2.2)⟩
  ·obtain ⟨k,hk,rfl⟩:=List.getElem_of_mem hr
   exact (r2 k _ (List.getElem?_eq_getElem hk)).2.1
  ·have:=ext (fun r=>r.es.map FX.q) id (fun i r hr=>(r2 i r hr).2.2.1)
   rw [List.map_id] at this;exact this
def gI (l : List Int) (i : Nat) : Int:=l[i]?.getD 0
def imT (Q : Nat -> Nat -> Rat) (n : Nat) (a b : List Int) (i k : Nat) : Rat:=
 Zcg i (fun r=>Zcg n (fun t=>Q r t * (gI a r : Rat) * (gI b t : Rat))) + Zcg k (fun t=>Q i t * (gI a i : Rat) * (gI b t : Rat))
section
variable {Q : Nat -> Nat -> Rat} {n : Nat} {a b : List Int} {i k : Nat}
theorem Zmf : imT Q n a b 0 0 = 0:=by unfold imT;simp only [Zcg];grind
theorem Ziz : imT Q n a b i (k + 1) = imT Q n a b i k + Q i k * (gI a i : Rat) * (gI b k : Rat):=by unfold imT;simp only [Zcg];grind
theorem Zhw : imT Q n a b (i + 1) 0 = imT Q n a b i n:=by unfold imT;simp only [Zcg];grind
theorem Zka : imT Q n a b 0 0 = ((0 : Int) : Rat):=by rw [Zmf];rfl
end
theorem Zoe (R : List (List Rat)) {i : Nat} : ∀ {n : Nat},i < n -> denAt R i ∣ byZ R n
 | n + 1,h=>by
  show denAt R i ∣ byZ R n * denAt R n
  rcases Nat.lt_or_ge i n with h1 | h1
  ·exact Nat.dvd_trans (Zoe R h1) (Nat.dvd_mul_right _ _)
  ·obtain rfl : i = n:=by omega
   exact Nat.dvd_mul_left _ _
theorem Zo2 (R : List (List Rat)) (i j : Nat) : (Zh R i j).den ∣ denAt R i:=by
 unfold Zh denAt
 rcases Nat.lt_or_ge j (R[i]?.getD []).length with h | h
 ·exact Zg9 _ h
 ·rw [List.getElem?_eq_none h]
  exact Nat.one_dvd _
theorem Zpm {q : Rat} {d : Nat} (h : q.den ∣ d) : BndQ (d * q.num.natAbs) ((d : Nat) * q):=by
 obtain ⟨c,rfl⟩:=h
 have e1 : ((q.den : Nat) : Rat) ≠ 0:=by
  intro h;have : q.den = 0:=by exact_mod_cast h
  have:=q.den_pos;omega
 have e2 : ((q.den : Nat) : Rat) * q = ((q.num : Int) : Rat):=by
  have e0 : ((q.num : Int) : Rat) / ((q.den : Nat) : Rat) = q:=by have:=Rat.num_divInt_den q;rw [Rat.divInt_eq_div,Rat.intCast_natCast] at this;exact this
  have : ((q.num : Int) : Rat) / ((q.den : Nat) : Rat) * ((q.den : Nat) : Rat) = ((q.num : Int) : Rat):=by grind
  rw [e0] at this;rw [<- this];grind
 refine ⟨(c : Int) * q.num,?_,?_⟩
 ·rw [Rat.intCast_mul,<- e2,Rat.intCast_natCast,Rat.natCast_mul];grind
 ·rw [Int.natAbs_mul,Int.natAbs_natCast]
  exact Nat.mul_le_mul (Nat.le_mul_of_pos_left _ q.den_pos) (Nat.le_refl _)
theorem Zg0 {x : Int} (h : Zdv x = false) : x.natAbs <= pw 2:=by
 unfold Zdv at h;rw [Bool.or_eq_false_iff] at h;have h1:=of_decide_eq_false h.1;have h2:=of_decide_eq_false h.2
 have h3 : 1099511627776 <= pw 2:=by decide +kernel
 omega
def Zcw (l : List Int) : Prop:=∀ k,Zdv (gI l k) = false
section
variable {R : List (List Rat)} {n : Nat} {a b : List Int}
theorem Zkp (hS : SmE 4 R) (hn : n <= 4) (hl : R.length = n) (hrow : ∀ i,i < n -> (R[i]?.getD []).length = n) (ha : Zcw a) (hb : Zcw b) : 0 < byZ R n /\ byZ R n <= pw 64 /\ ∀ i k,i < n -> k <= n -> BndQ ((i * n + k) * pw 72) ((byZ R n : Nat) * imT (Zh R) n a b i k):=by
 have hD : byZ R n <= pw 64:=Nat.le_trans (hS.byZ hrow n (Nat.le_refl _)) (Zfk (by
  have h1 : 4 * n * n <= 16 * n:=Nat.mul_le_mul (by omega) (Nat.le_refl _)
  omega))
 have hterm : ∀ i k,i < n -> BndQ (pw 72) ((byZ R n : Nat) * (Zh R i k * (gI a i : Rat) * (gI b k : Rat))):=fun i k hi=>by
  have h1:=Zpm (Nat.dvd_trans (Zo2 R i k) (Zoe R hi));have h2 : BndQ (pw 2) (gI a i : Rat):=⟨gI a i,rfl,Zg0 (ha i)⟩;have h3 : BndQ (pw 2) (gI b k : Rat):=⟨gI b k,rfl,Zg0 (hb k)⟩;have h4:=(h1.mul h2).mul h3
  have e : ((byZ R n : Nat) : Rat) * (Zh R i k * (gI a i : Rat) * (gI b k : Rat)) = ((byZ R n : Nat) : Rat) * Zh R i k * (gI a i : Rat) * (gI b k : Rat):=by grind
  rw [e];refine h4.mono ?_;have h5 : byZ R n * (Zh R i k).num.natAbs <= pw 64 * pw 4:=Nat.mul_le_mul hD (hS i k).1;have h6 : byZ R n * (Zh R i k).num.natAbs * pw 2 * pw 2 <= pw 64 * pw 4 * pw 2 * pw 2:=Nat.mul_le_mul (Nat.mul_le_mul h5 (Nat.le_refl _)) (Nat.le_refl _);rw [<- Zck,<- Zck,<- Zck] at h6;exact h6
 refine ⟨byZ_pos R n,hD,?_⟩
 have step : ∀ i,i < n -> BndQ (i * n * pw 72) ((byZ R n : Nat) * imT (Zh R) n a b i 0) -> ∀ k,k <= n -> BndQ ((i * n + k) * pw 72) ((byZ R n : Nat) * imT (Zh R) n a b i k):=fun i hi h0 k=>by
  induction k with
  | zero=>intro _;rw [Nat.add_zero];exact h0
  | succ k ih =>
   intro hk;have h1:=(ih (by omega)).add (hterm i k hi);rw [Ziz]
   have e : ((byZ R n : Nat) : Rat) * (imT (Zh R) n a b i k + Zh R i k * (gI a i : Rat) * (gI b k : Rat)) = ((byZ R n : Nat) : Rat) * imT (Zh R) n a b i k + ((byZ R n : Nat) : Rat) * (Zh R i k * (gI a i : Rat) * (gI b k : Rat)):=by grind
   rw [e];refine h1.mono ?_;rw [<- Nat.succ_mul];exact Nat.le_refl _
 have start : ∀ i,i < n -> BndQ (i * n * pw 72) ((byZ R n : Nat) * imT (Zh R) n a b i 0):=fun i=>by
  induction i with
  | zero =>
   intro _;rw [Zmf]
   have e : ((byZ R n : Nat) : Rat) * 0 = 0:=by grind
   rw [e];exact BndQ.zero.mono (Nat.le_refl _)
  | succ i ih =>
   intro hi;rw [Zhw];have h1:=step i (by omega) (ih (by omega)) n (Nat.le_refl _);refine h1.mono ?_;rw [<- Nat.succ_mul];exact Nat.le_refl _
 exact fun i k hi hk=>step i hi (start i hi) k hk
theorem Zof (hS : SmE 4 R) (hn : n <= 4) (hl : R.length = n) (hrow : ∀ i,i < n -> (R[i]?.getD []).length = n) (ha : Zcw a) (hb : Zcw b) (h0 : 0 < n) {i k : Nat} (hi : i <= n) (hk : k <= n) (hik : i = n -> k = 0) : BndQ (pw 73) ((byZ R n : Nat) * imT (Zh R) n a b i k):=by
 have h16 : ∀ x,x <= 16 -> x * pw 72 <= pw 73:=fun x hx=>by
  have e : pw 73 = 4294967296 * pw 72:=Zah 72;rw [e];exact Nat.mul_le_mul_right _ (by omega)
 obtain ⟨-,-,h⟩:=Zkp hS hn hl hrow ha hb
 rcases Nat.lt_or_ge i n with h1 | h1
 ·refine (h i k h1 hk).mono (h16 _ ?_)
  have h2 : i * n <= 3 * 4:=Nat.mul_le_mul (by omega) hn;omega
 ·obtain rfl : i = n:=by omega
  rw [hik rfl];obtain ⟨j,rfl⟩ : ∃ j,i = j + 1:=⟨i - 1,by omega⟩;rw [Zhw];refine (h j (j + 1) (by omega) (Nat.le_refl _)).mono (h16 _ ?_);have h2 : j * (j + 1) <= 3 * 4:=Nat.mul_le_mul (by omega) hn;omega
theorem Zow {D B : Nat} {q : Rat} (hD : 0 < D) (h : BndQ B ((D : Nat) * q)) : q.num.natAbs <= B /\ q.den <= D:=by
 have hD0 : ((D : Nat) : Rat) ≠ 0:=fun e=>by
  have : D = 0:=by exact_mod_cast e
  omega
 exact Zkk h ⟨(D : Int),by rw [Rat.intCast_natCast],by simp⟩ hD0
theorem Zrf (hS : SmE 4 R) (hn : n <= 4) (hl : R.length = n) (hrow : ∀ i,i < n -> (R[i]?.getD []).length = n) (ha : Zcw a) (hb : Zcw b) (h0 : 0 < n) {i k : Nat} (hi : i <= n) (hk : k <= n) (hik : i = n -> k = 0) : Sm (imT (Zh R) n a b i k):=by
 obtain ⟨d1,d2,-⟩:=Zkp hS hn hl hrow ha hb;obtain ⟨h1,h2⟩:=Zow d1 (Zof hS hn hl hrow ha hb h0 hi hk hik);exact ⟨Nat.lt_of_le_of_lt h1 (Zdi (by decide)),Nat.lt_of_le_of_lt (Nat.le_trans h2 d2) (Zdi (by decide))⟩
def Zbv (Q : Nat -> Nat -> Rat) (n : Nat) (js : List (List Int)) (a : List Int) : List Rat:=js.map fun b=>imT Q n a b n 0
def Zeh (Q : Nat -> Nat -> Rat) (n : Nat) (js : List (List Int)) : List (List Rat):=js.map (Zbv Q n js)
theorem Zc5 {Q : Nat -> Nat -> Rat} {js : List (List Int)} {a : List Int} : (Zbv Q n js a).length = js.length:=by simp [Zbv]
theorem Zcb {Q : Nat -> Nat -> Rat} {js : List (List Int)} : (Zeh Q n js).length = js.length:=by simp [Zeh]
theorem Zqq {Q : Nat -> Nat -> Rat} {js : List (List Int)} {i k : Nat} (hi : i < js.length) (hk : k < js.length) : Zh (Zeh Q n js) i k = imT Q n (js[i]?.getD []) (js[k]?.getD []) n 0:=by
 unfold Zh Zeh Zbv;rw [List.getElem?_map,List.getElem?_eq_getElem hi,Option.map_some,Option.getD_some,List.getElem?_map,List.getElem?_eq_getElem hk];rfl
theorem Zmu {Q : Nat -> Nat -> Rat} {js : List (List Int)} {i : Nat} (hi : i < js.length) : ((Zeh Q n js)[i]?.getD []).length = js.length:=by
 unfold Zeh;rw [List.getElem?_map,List.getElem?_eq_getElem hi,Option.map_some,Option.getD_some,Zc5]
theorem Zhk {Q : Nat -> Nat -> Rat} {js : List (List Int)} {a : List Int} {k : Nat} (hk : k < js.length) : (Zbv Q n js a).take k ++ [imT Q n a (js[k]?.getD []) n 0] = (Zbv Q n js a).take (k + 1):=by
 rw [List.take_add_one];unfold Zbv;rw [List.getElem?_map,List.getElem?_eq_getElem hk];rfl
theorem Zjp {Q : Nat -> Nat -> Rat} {js : List (List Int)} {k : Nat} (hk : k < js.length) : (Zeh Q n js).take k ++ [Zbv Q n js (js[k]?.getD [])] = (Zeh Q n js).take (k + 1):=by
 rw [List.take_add_one];unfold Zeh;rw [List.getElem?_map,List.getElem?_eq_getElem hk];rfl
theorem Zol {js : List (List Int)} (hS : SmE 4 R) (hn : n <= 4) (hl : R.length = n) (hrow : ∀ i,i < n -> (R[i]?.getD []).length = n) (h0 : 0 < n) (hj : ∀ a ∈ js,Zcw a) (hm : js.length <= 4) {rs : List RX} (hq : qM rs = Zeh (Zh R) n js) (hm0 : rs.length = js.length) : FacC rs:=fun hV hs=>by
 obtain ⟨d1,d2,-⟩:=Zkp (a:=[]) (b:=[]) hS hn hl hrow (fun k=>by simp [gI,Zdv]) (fun k=>by simp [gI,Zdv]);rw [hm0];refine FacP.unif (D:=byZ R n) (b:=73) (e:=64) (by rw [hq,Zcb]) (by omega) (fun i hi=>by rw [hq];exact Zmu hi) (fun i k hi hk=>symB_iff.1 hs i k (by rw [hq,Zcb];exact hi) (by rw [hq,Zcb];exact hk)) d1 d2 (fun i j hi=>?_) (by omega) (by omega)
 rcases Nat.lt_or_ge j js.length with h1 | h1
 ·rw [hq,Zqq hi h1]
  have e1 : Zcw (js[i]?.getD []):=by rw [List.getElem?_eq_getElem hi];exact hj _ (List.getElem_mem _)
  have e2 : Zcw (js[j]?.getD []):=by rw [List.getElem?_eq_getElem h1];exact hj _ (List.getElem_mem _)
  exact Zof hS hn hl hrow e1 e2 h0 (Nat.le_refl _) (Nat.zero_le _) (fun _=>rfl)
 ·have : Zh (qM rs) i j = 0:=by
    unfold Zh;rw [List.getElem?_eq_none (by rw [hq,Zmu hi];exact h1)];rfl
  rw [this]
  have e : ((byZ R n : Nat) : Rat) * 0 = 0:=by grind
  rw [e];exact BndQ.zero
end
def Zdy (n : Nat) (l : List Int) : Bool:=decide (l.length = n) && !Zja l
def Zeg (rs : List RX) (js : List (List Int)) : Int:=if Zal rs = 0 then (if 6 < js.length then 4 else if js.length = 0 then 8 else if js.all (Zdy rs.length) = true then 0 else 8) else Zal rs
section
variable {rs : List RX} {js : List (List Int)} {n : Nat}
theorem Zmb {E : Int} (h : Zal rs = E) (h0 : E ≠ 0) : Zeg rs js = E:=by subst h;unfold Zeg;rw [if_neg h0]
theorem Zj4 (h : Zal rs = 0) (hm : 6 < js.length) : Zeg rs js = 4:=by unfold Zeg;rw [if_pos h,if_pos hm]
theorem Zmc (h : Zal rs = 0) (hm : js.length = 0) : Zeg rs js = 8:=by unfold Zeg;rw [if_pos h,if_neg (by omega),if_pos hm]
theorem Zlk (h : Zal rs = 0) (h6 : ¬ 6 < js.length) {l : List Int} (hl : l ∈ js) (hb : Zdy rs.length l = false) : Zeg rs js = 8:=by
 unfold Zeg;rw [if_pos h,if_neg h6]
 split
 ·rfl
 ·rw [if_neg]
  intro e;rw [List.all_eq_true] at e;have:=e l hl;rw [hb] at this;cases this
theorem Zod (h : Zal rs = 0) (h6 : ¬ 6 < js.length) (h0 : js.length ≠ 0) (ha : ∀ l ∈ js,Zdy rs.length l = true) : Zeg rs js = 0:=by
 unfold Zeg;rw [if_pos h,if_neg h6,if_neg h0,if_pos (List.all_eq_true.2 ha)]
theorem Zjr {l : List Int} (h : Zdy n l = true) : l.length = n /\ Zcw l:=by
 unfold Zdy at h;rw [Bool.and_eq_true,decide_eq_true_eq] at h;refine ⟨h.1,fun k=>?_⟩
 have h2 : Zja l = false:=by simpa using h.2
 unfold Zja at h2;rw [List.any_eq_false] at h2;unfold gI
 rcases Nat.lt_or_ge k l.length with h3 | h3
 ·rw [List.getElem?_eq_getElem h3,Option.getD_some]
  have:=h2 _ (List.getElem_mem h3)
  simpa using this
 ·rw [List.getElem?_eq_none h3];decide
end
def ImgPost (rs : List RX) (js : List (List Int)) (w : World) (e : Ending) (w' : World) : Prop:=
 Below w.heap.size w w' /\ ((Zeg rs js = 0 /\ ∃ rt,Zgs rt = sigQ (Zeh (Zh (qM rs)) rs.length js) /\ ((Zal rt = 0 /\ ∃ v L,e = .returned (.tuple #[v,.int .i64 0]) /\ MatOA 41 64 w' w.heap.size v L (Zeh (Zh (qM rs)) rs.length js)) \/ (Zal rt ≠ 0 /\ e = .returned (.tuple #[.slice none 0 0,.int .i64 16])))) \/
  (Zeg rs js ≠ 0 /\ e = .returned (.tuple #[.slice none 0 0,.int .i64 (Zeg rs js)])))
theorem ImgPost.fall {rs : List RX} {js : List (List Int)} {w w' : World} {E : Int} (hb : Below w.heap.size w w') (h : Zeg rs js = E) (h0 : E ≠ 0) : ImgPost rs js w (.returned (.tuple #[.slice none 0 0,.int .i64 E])) w':=by
 subst h;exact ⟨hb,.inr ⟨h0,rfl⟩⟩
theorem SmN.intC (x : Int) (k : Nat) (h : x.natAbs <= pw k) : SmN (k + 1) 1 (x : Rat):=by
 refine ⟨?_,?_⟩
 ·rw [Rat.num_intCast]
  exact Nat.lt_of_le_of_lt h (Zdi (by omega))
 ·rw [Rat.den_intCast]
  rw [show (1 : Nat) = 0 + 1 by rfl,Zah,Zco];decide
theorem Zor {R : List (List Rat)} {a b : List Int} (hS : SmE 4 R) (ha : Zcw a) (hb : Zcw b) (i k : Nat) : Sm (Zh R i k) /\ Sm ((gI a i : Int) : Rat) /\ Sm ((gI b k : Int) : Rat) /\ Sm (Zh R i k * ((gI a i : Int) : Rat)) /\ Sm (Zh R i k * ((gI a i : Int) : Rat) * ((gI b k : Int) : Rat)):=by
 have h1 : SmN 5 5 (Zh R i k):=⟨Nat.lt_of_le_of_lt (hS i k).1 (Zdi (by decide)),Nat.lt_of_le_of_lt (hS i k).2 (Zdi (by decide))⟩;have h2:=SmN.intC (gI a i) 2 (Zg0 (ha i));have h3:=SmN.intC (gI b k) 2 (Zg0 (hb k));exact ⟨h1.sm (by decide) (by decide),h2.sm (by decide) (by decide),h3.sm (by decide) (by decide),(h1.mulN h2).sm (by decide) (by decide),((h1.mulN h2).mulN h3).sm (by decide) (by decide)⟩
end Go.Proofs.YtkcbhbddgmkoiaaGreat
