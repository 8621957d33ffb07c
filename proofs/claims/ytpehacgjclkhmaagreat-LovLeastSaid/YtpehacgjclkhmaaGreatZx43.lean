/- Reference of lov: Great. Reference: Same of fractions, -/
import Derived.Deep.LoopGhost
import Derived.ProofKit
import Derived.Deep.Slices
import Derived.Deep.Fields
import Derived.ChangeSame
import Derived.Test.YtpehacgjclkhmaaGreatProg
import Derived.Test.YtpehacgjclkhmaaGreatZx42
set_option maxRecDepth 100000
set_option maxHeartbeats 4000000
set_option linter.unusedSimpArgs false
set_option linter.unusedVariables false
namespace Go.Proofs.YtpehacgjclkhmaaGreat
open Go.RowKit
attribute [local go_sem] Zg
def calmL (rs : List RX) : Prop:=rs.length <= 10 /\ fewM 3 rs
theorem Zlz (A : Option Addr) (n c : Nat) (rs : List RX) (w : World) (h : MXL w A n c rs) :
    Calls Tryz.prog 19 #[.slice A n c] w fun e w'=>∃ b,e = .returned (.bool b) /\ Below w.heap.size w w' /\ (b = false -> calmL rs):=by
 have hl:=h.1;have hnc:=h.2.1;have hcm:=h.2.2.1;unfold maxLen at hcm;replace h:=Zb h;replace hl:=Zb hl;go_enter Tryz.func19,Tryz.ntmps19;go_wp2_with fail
 go_loopg [3] n (fun k iv wr=>∃ i : Nat,i + k = n /\ i <= 10 /\ iv = .int .i64 i /\ Hid (∀ a r,a < i -> rs[a]? = some r -> ∀ e ∈ r.es,e.few <= 3 \/ 64 < e.few) /\ Below w.heap.size w wr)
 case atStart=>exact ⟨0,by omega,by omega,rfl,Zb (fun a r ha=>by omega),Below.refl _ _⟩
 case round =>
  obtain ⟨w0,rfl⟩ : ∃ x : World,x = wr:=⟨_,rfl⟩;obtain ⟨i,hik,hi10,rfl,hc,hB⟩:=hrel
  by_cases hin : i < n
  case neg =>
   have t1 : decide ((i : Int) < (n : Int)) = false:=decide_eq_false (by omega)
   have hn10 : n <= 10:=by omega
   have hcc : Hid (fewM 3 rs):=Zb (fun r hr=>by
    obtain ⟨a,ha,e⟩:=List.getElem_of_mem hr
    exact hc.out a r (by rw [hl.out] at ha;omega) (by rw [List.getElem?_eq_getElem ha,e]))
   have u10 : decide ((10 : Int) < (n : Int)) = false:=decide_eq_false (by omega);go_wp2_with fail;go_ret;exact ⟨_,rfl,hB,fun _=>⟨by rw [hl.out];exact hn10,hcc.out⟩⟩
  have t1 : decide ((i : Int) < (n : Int)) = true:=decide_eq_true (by omega)
  by_cases hi10' : i < 10
  case neg =>
   have t2 : decide ((i : Int) < 10) = false:=decide_eq_false (by omega);have t2' : decide (i < 10) = false:=decide_eq_false (by omega);have u10 : decide ((10 : Int) < (n : Int)) = true:=decide_eq_true (by omega);go_wp2_with fail;go_ret;exact ⟨_,rfl,hB,fun hf=>absurd hf (by decide)⟩
  have t2 : decide ((i : Int) < 10) = true:=decide_eq_true (by omega);have t2' : decide (i < 10) = true:=decide_eq_true (by omega);obtain ⟨gk',rfl⟩ : ∃ j,gk = j + 1:=⟨gk - 1,by omega⟩
  obtain rfl : gk' = n - (i + 1):=by omega
  have bi : (i : Int) < (n : Int):=by omega
  obtain ⟨g,o,⟨rA,rn,rc,es⟩,rfl,hr,k0,hF⟩:=(h.out.below hB).at_ hin;simp only at k0 hF;have hrl:=Nat.le_trans hF.2.1 hF.2.2.1;unfold maxLen at hrl;have hes : Hid (es.length = rn):=Zb hF.1;have hrowF:=Zb hF;replace hr:=Zb hr;clear hF
  by_cases h10 : 10 < rn
  ·have u10 : decide ((10 : Int) < (rn : Int)) = true:=decide_eq_true (by omega)
   go_wp2_with fail;go_ret;exact ⟨_,rfl,hB,fun hf=>absurd hf (by decide)⟩
  have u10 : decide ((10 : Int) < (rn : Int)) = false:=decide_eq_false (by omega);go_wp2_with fail
  go_loopg [4] rn (fun k iv wr=>∃ j : Nat,j + k = rn /\ iv = .int .i64 j /\ Hid (∀ a e,a < j -> es[a]? = some e -> e.few <= 3 \/ 64 < e.few) /\ Below w0.heap.size w0 wr)
  case atStart=>exact ⟨0,by omega,rfl,Zb (fun a e ha=>by omega),Below.refl _ _⟩
  case round =>
   obtain ⟨wx,rfl⟩ : ∃ x : World,x = wr:=⟨_,rfl⟩;obtain ⟨j,hjk,rfl,hce,hB2⟩:=hrel;have k1:=Za hB2 k0;have hBx:=Zb (hB.trans (hB2.mono hB.size))
   cases gk with
   | zero =>
    obtain rfl : rn = j:=by omega
    have t3 : decide ((rn : Int) < (rn : Int)) = false:=by simp
    have hc2 : Hid (∀ a x,a < i + 1 -> rs[a]? = some x -> ∀ e ∈ x.es,e.few <= 3 \/ 64 < e.few):=Zb (fun a x ha hx=>by
     by_cases he : a = i
     ·subst he
      rw [hr.out] at hx
      cases hx
      intro e he;obtain ⟨t,ht,hte⟩:=List.getElem_of_mem he;exact hce.out t e (by rw [hes.out] at ht;exact ht) (by rw [List.getElem?_eq_getElem ht,hte])
     ·exact hc.out a x (by omega) hx)
    go_wp2_with fail
    go_roundg (n - (i + 1))
    case measure=>omega
    case rel=>exact ⟨i + 1,by omega,by omega,by go_num,hc2,hBx.out⟩
   | succ gk' =>
    obtain rfl : gk' = rn - (j + 1):=by omega
    have hjn : j < rn:=by omega
    have t3 : decide ((j : Int) < (rn : Int)) = true:=decide_eq_true (by omega)
    have bj : (j : Int) < (rn : Int):=by omega
    obtain ⟨g2,o2,e,hA2,hee,⟨c0,c1,c2,c3⟩,hLa,hLb⟩:=(hrowF.out.below hB2).at_ hjn;rw [hA2] at k1;replace hA2:=Zb hA2;have hn1:=Nat.le_trans hLa.2.1 hLa.2.2.1;have hm1:=Nat.le_trans hLb.2.1 hLb.2.2.1;have hFw:=Zb (fun W1=>Zls e.na e.nb e.A e.B e.n e.c e.m e.d W1 hn1 hm1);obtain ⟨f,hf⟩ : ∃ f,max e.n e.m = f:=⟨_,rfl⟩
    have hff : f <= 9223372036854775807:=by unfold maxLen at hn1 hm1;omega
    rw [hf] at hFw;have hfe : Hid (e.few = f):=Zb hf;replace hee:=Zb hee;replace hf:=Zb hf;clear hLa hLb hn1 hm1;go_wp2_with fail;refine (hFw.out _).mono ?_;rintro e2 w5 ⟨rfl,hb5⟩;have hB5:=hB2.trans (hb5.mono hB2.size);have hB6:=Zb (hBx.out.trans (hb5.mono hBx.out.size));clear c0 c1 c2 c3 k1
    by_cases f4 : 3 < f
    ·have x4 : decide ((3 : Int) < (f : Int)) = true:=decide_eq_true (by omega)
     by_cases f64 : f <= 64
     ·have x64 : decide ((f : Int) <= 64) = true:=decide_eq_true (by omega)
      go_wp2_with fail;go_ret;exact ⟨_,rfl,hB6.out,fun hf=>absurd hf (by decide)⟩
     have x64 : decide ((f : Int) <= 64) = false:=decide_eq_false (by omega)
     by_cases f70 : 70 < f
     ·have x70 : decide ((70 : Int) < (f : Int)) = true:=decide_eq_true (by omega)
      go_wp2_with fail;go_ret;exact ⟨_,rfl,hB6.out,fun hf=>absurd hf (by decide)⟩
     have x70 : decide ((70 : Int) < (f : Int)) = false:=decide_eq_false (by omega)
     have hce2 : Hid (∀ a e,a < j + 1 -> es[a]? = some e -> e.few <= 3 \/ 64 < e.few):=Zb (fun a x ha hx=>by
      by_cases he : a = j
      ·subst he
       rw [hee.out] at hx
       cases hx
       rw [hfe.out];omega
      ·exact hce.out a x (by omega) hx)
     go_wp2_with fail
     go_roundg (rn - (j + 1))
     case measure=>omega
     case rel=>exact ⟨j + 1,by omega,by go_num,hce2,hB5⟩
    ·have x4 : decide ((3 : Int) < (f : Int)) = false:=decide_eq_false (by omega)
     have x70 : decide ((70 : Int) < (f : Int)) = false:=decide_eq_false (by omega)
     have hce2 : Hid (∀ a e,a < j + 1 -> es[a]? = some e -> e.few <= 3 \/ 64 < e.few):=Zb (fun a x ha hx=>by
      by_cases he : a = j
      ·subst he
       rw [hee.out] at hx
       cases hx
       rw [hfe.out];omega
      ·exact hce.out a x (by omega) hx)
     go_wp2_with fail
     go_roundg (rn - (j + 1))
     case measure=>omega
     case rel=>exact ⟨j + 1,by omega,by go_num,hce2,hB5⟩
theorem Zj2 (na : Bool) (a : List Nat) : Zec na na a a = true:=by
 unfold Zec
 have : Zbg a a = 0:=by
  unfold Zbg
  simp
 rw [this];simp
theorem Zow (na nb : Bool) (A B A' B' : Option Addr) (n c m d n' c' m' d' : Nat) (la lb : List Nat) (w : World) (ha : Lim w A n c la) (hb : Lim w B m d lb) (ha' : Lim w A' n' c' la) (hb' : Lim w B' m' d' lb) :
    Calls Tryz.prog 16 #[.agg #[.bool na,.slice A n c,.bool nb,.slice B m d],.agg #[.bool na,.slice A' n' c',.bool nb,.slice B' m' d']] w fun e w'=>e = .returned (.bool true) /\ Below w.heap.size w w':=by
 obtain ⟨W0,hW0,hB0,⟨q0,q1⟩,s0⟩:=Zd4 w 29 #[.bool na,.slice A n c,.bool nb,.slice B m d] 29 #[.bool na,.slice A' n' c',.bool nb,.slice B' m' d'];replace ha:=Zb (ha.below hB0);replace hb:=Zb (hb.below hB0);replace ha':=Zb (ha'.below hB0);replace hb':=Zb (hb'.below hB0);obtain ⟨a0,a1,a2,a3,-⟩:=q0.four;obtain ⟨b0,b1,b2,b3,-⟩:=q1.four;have hq:=Zb (And.intro q0 q1);clear q0 q1;go_enter Tryz.func16,Tryz.ntmps16;go_wp2_with fail;refine (Zdj na na A A' n c n' c' _ _ W0 ha.out ha'.out).mono ?_;rw [Zj2];rintro e w1 ⟨rfl,hb1⟩;have hB1 : Below w.heap.size w w1:=hB0.trans (hb1.mono hB0.size);obtain ⟨q0,q1⟩:=hq.out;replace q0:=Zc hb1 q0;replace q1:=Zc hb1 q1;clear hW0 a0 a1 a2 a3 b0 b1 b2 b3 hq hB0;obtain ⟨a0,a1,a2,a3,-⟩:=q0.four;obtain ⟨b0,b1,b2,b3,-⟩:=q1.four;clear q0 q1;go_wp2_with fail;refine (Zdj nb nb B B' m d m' d' _ _ w1 (hb.out.below hb1) (hb'.out.below hb1)).mono ?_;rw [Zj2];rintro e w2 ⟨rfl,hb2⟩;have hB2 : Below w.heap.size w w2:=hB1.trans (hb2.mono hB1.size);go_wp2_with fail;go_ret;exact ⟨by simp,hB2⟩
structure DF where
 na : Bool
 la : List Nat
 nb : Bool
 lb : List Nat
def XL (w : World) (A : Option Addr) (n c : Nat) (ds : List DF) : Prop:=
 ds.length = n /\ n <= c /\ c <= maxLen /\ ∀ (k : Nat) (d : DF),ds[k]? = some d -> ∃ g o A1 n1 c1 B1 m1 d1,A = some ⟨g,o,none⟩ /\ At4 w g (o + k * 4) d.na A1 n1 c1 d.nb B1 m1 d1 /\ Lim w A1 n1 c1 d.la /\ Lim w B1 m1 d1 d.lb
section
variable {w w' : World} {A : Option Addr} {n c : Nat} {ds : List DF} {D : List (List DF)}
theorem XL.below (h : XL w A n c ds) (hb : Below w.heap.size w w') : XL w' A n c ds:=by
 obtain ⟨h1,h2,h3,h4⟩:=h;refine ⟨h1,h2,h3,fun k d hd=>?_⟩;obtain ⟨g,o,A1,n1,c1,B1,m1,d1,e,a,b,b'⟩:=h4 k d hd;exact ⟨g,o,A1,n1,c1,B1,m1,d1,e,a.below hb,b.below hb,b'.below hb⟩
def dfQ (q : Rat) : DF:=⟨decide (q.num < 0),digits q.num.natAbs,false,digits q.den⟩
theorem FL.xl {qs : List Rat} (h : FL w A n c qs) : XL w A n c (qs.map dfQ):=by
 have hl:=h.len;refine ⟨by rw [List.length_map,hl],h.cap.1,h.cap.2,fun k d hd=>?_⟩;rw [List.getElem?_map] at hd;obtain ⟨q,hq,rfl⟩:=Option.map_eq_some_iff.1 hd
 have hk : k < n:=by have:=(List.getElem?_eq_some_iff.1 hq).1;omega
 obtain ⟨g,o,na,A1,n1,c1,nb,B,m,d,e1,e2,e3⟩:=h.at_ hk;rw [hq,Option.getD_some] at e3;have h1:=e3.1.1;have h2:=e3.2.1;have h3:=e3.2.2.2;rw [Int.natAbs_natCast] at h3
 have h4 : nb = false:=by rw [h2];exact decide_eq_false (by omega)
 subst h1 h4;exact ⟨g,o,_,_,_,_,_,_,e1,e2,e3.1.2.2,h3⟩
end
theorem Zgp (A B : Option Addr) (n c d : Nat) (ds : List DF) (w : World) (ha : XL w A n c ds) (hb : XL w B n d ds) :
    Calls Tryz.prog 37 #[.slice A n c,.slice B n d] w fun e w'=>e = .returned (.bool true) /\ Below w.heap.size w w':=by
 have hmx : Tryz.prog.follows .mixedOrders = true:=by kernel_rfl
 have hl:=Zb ha.1;have hc:=ha.2.1;have hcm:=ha.2.2.1;have hd:=hb.2.1;have hdm:=hb.2.2.1;unfold maxLen at hcm hdm;replace ha:=Zb ha;replace hb:=Zb hb
 have t0 : (((n : Int)) != (n : Int)) = false:=by simp
 go_enter Tryz.func37,Tryz.ntmps37;go_wp2_with fail
 go_loopg [5] n (fun k iv wr=>∃ i : Nat,i + k = n /\ iv = .int .i64 i /\ Below w.heap.size w wr)
 case atStart=>exact ⟨0,by omega,rfl,Below.refl _ _⟩
 case round =>
  obtain ⟨i,hik,rfl,hB⟩:=hrel
  cases gk with
  | zero =>
   obtain rfl : i = n:=by omega
   have t1 : decide ((i : Int) < (i : Int)) = false:=by simp
   go_wp2_with fail;go_ret;exact ⟨rfl,hB⟩
  | succ k' =>
   obtain rfl : k' = n - (i + 1):=by omega
   have hin : i < n:=by omega
   have t1 : decide ((i : Int) < (n : Int)) = true:=decide_eq_true (by omega)
   have bi : (i : Int) < (n : Int):=by omega
   obtain ⟨x,hx⟩:=Zg4 (L:=ds) (i:=i) (by rw [hl.out];exact hin);obtain ⟨g,o,A1,n1,c1,B1,m1,d1,rfl,⟨r0,r1,r2,r3⟩,l1,l2⟩:=(ha.out.below hB).2.2.2 i x hx;obtain ⟨g',o',A1',n1',c1',B1',m1',d1',rfl,⟨s0,s1,s2,s3⟩,l1',l2'⟩:=(hb.out.below hB).2.2.2 i x hx;replace l1:=Zb l1;replace l2:=Zb l2;replace l1':=Zb l1';replace l2':=Zb l2';go_wp2_with fail;obtain ⟨X0,hX0⟩ : ∃ X,wr.drew = X:=⟨_,rfl⟩
   have hr1 : Below wr.heap.size wr X0:=by rw [<- hX0];exact Zj (Below.refl _ _) 1
   have hSv1 : Hid (∀ wx,Below wr.heap.size wr wx -> wx.cell? ⟨g,o + i * 4,none⟩ = some (.bool x.na) /\ wx.cell? ⟨g,o + i * 4 + 1,none⟩ = some (.slice A1 n1 c1) /\ wx.cell? ⟨g,o + i * 4 + 2,none⟩ = some (.bool x.nb) /\ wx.cell? ⟨g,o + i * 4 + 3,none⟩ = some (.slice B1 m1 d1) /\ wx.cell? ⟨g',o' + i * 4,none⟩ = some (.bool x.na) /\ wx.cell? ⟨g',o' + i * 4 + 1,none⟩ = some (.slice A1' n1' c1') /\ wx.cell? ⟨g',o' + i * 4 + 2,none⟩ = some (.bool x.nb) /\ wx.cell? ⟨g',o' + i * 4 + 3,none⟩ = some (.slice B1' m1' d1')):=Zb (fun wx hbx=>⟨Za hbx r0,Za hbx r1,Za hbx r2,Za hbx r3,Za hbx s0,Za hbx s1,Za hbx s2,Za hbx s3⟩);refine wp_heldS [] hmx hSv1 (by rw [hX0];exact hr1) (fun hxs=>?_);rw [hX0];refine Zu3 8 [0,1,2,3,4,5,6,7] rfl (by kernel_rfl) (hSv1.out _ hr1) ?_
   iterate 8 (refine tk1 (v:=?_) rfl (Or.inl ⟨by kernel_rfl,?_⟩) ?_;rotate_left;(· intro W2 hSw;(try dsimp only at hSw);go_simp;try with_reducible rfl);try simp only [Act.put,putL_a,putL_z,putL_s,putG_a,putG_s,putG_z])
   refine tk0 ?_;refine Ze (i:=8) rfl (by kernel_rfl) (fun K hK=>?_);go_simp;refine (Zow x.na x.nb A1 B1 A1' B1' n1 c1 m1 d1 n1' c1' m1' d1' x.la x.lb X0 (l1.out.below hr1) (l2.out.below hr1) (l1'.out.below hr1) (l2'.out.below hr1)).mono ?_;rintro e w3 ⟨rfl,hb3⟩;have hr3:=hr1.trans (hb3.mono hr1.size);have hB3:=hB.trans (hr3.mono hB.size);refine hK.out _ _ (fun _=>hSv1.out _ hr3) ?_;clear hK K
   try simp only [Act.put,putL_a,putL_z,putL_s]
   refine Zu2 1 [9] rfl (by kernel_rfl) (hSv1.out _ hr3) ?_
   (refine tk1 (v:=?_) rfl (Or.inl ⟨by kernel_rfl,?_⟩) ?_;rotate_left;(· intro W2 _;go_simp;try with_reducible rfl);try simp only [Act.put,putL_a,putL_z,putL_s,putG_a,putG_s,putG_z])
   refine tk0 ?_;refine Zl (by kernel_rfl) ?_ _;refine OnlyNormal.normal ?_;clear hxs hSv1;go_wp2_with fail
   go_roundg (n - (i + 1))
   case measure=>omega
   case rel=>exact ⟨i + 1,by omega,by go_num,hB3⟩
theorem Zsc {rs : List RX} {k : Int} (h : dirE rs k = 0) : Zax rs = 0 /\ rs.length = 6 /\ 0 <= k /\ k <= 5:=by
 by_cases h1 : Zax rs = 0
 case neg=>rw [Zm4 rfl h1] at h;exact absurd h h1
 by_cases h2 : rs.length = 6
 case neg=>rw [Zod h1 h2] at h;cases h
 by_cases h3 : 0 <= k /\ k <= 5
 case neg=>rw [Zju h1 h2 h3] at h;cases h
 exact ⟨h1,h2,h3⟩
theorem Zr2 {rs : List RX} {A : Option Addr} {n c : Nat} {w : World} {k d : Int} (h : MXL w A n c rs) (hf : fewM 3 rs) (h0 : dirE rs k = 0) (hd1 : -9223372036854775808 <= d) (hd2 : d <= 9223372036854775807) : Zoo (Zcg (Zi (qM rs)) k.toNat) d:=by
 obtain ⟨hE,hl,hk0,hk5⟩:=Zsc h0;obtain ⟨hcV,hcS,hcP⟩:=Zhi hE;have hS:=hcV.small h hf
 have hd : SmN 2 1 (d : Rat):=SmN.int (by have e : pw 2 = 18446744073709551616:=by decide
                                          omega)
 have hne : Zi (qM rs) k.toNat k.toNat ≠ 0:=by
  have h1:=Zhc (A:=Zi (qM rs)) (n:=rs.length) (fun i k hi hk=>symB_iff.1 hcS i k (by unfold qM;rw [List.length_map];exact hi) (by unfold qM;rw [List.length_map];exact hk)) hcP (k:=k.toNat) (by omega) k.toNat 0 (by omega);intro e;have e2 : Zk (Zi (qM rs)) 0 k.toNat k.toNat = 0:=e;rw [e2] at h1;exact absurd h1 (by decide)
 refine ⟨hd.sm (by decide) (by decide),fun i=>?_⟩
 by_cases hi : i < 6
 ·have e : (Zcg (Zi (qM rs)) k.toNat)[i]?.getD 0 = Zi (qM rs) i k.toNat / Zi (qM rs) k.toNat k.toNat:=by
    unfold Zcg;rw [List.getElem?_map,List.getElem?_range hi];rfl
  rw [e]
  have hN : ∀ i j,SmN 4 4 (Zi (qM rs) i j):=fun i j=>⟨Nat.lt_of_le_of_lt (hS i j).1 (Zc7 (by decide)),Nat.lt_of_le_of_lt (hS i j).2 (Zc7 (by decide))⟩
  have h1:=SmN.divN (hN i k.toNat) (hN k.toNat k.toNat) hne;exact ⟨h1.sm (by decide) (by decide),(h1.mulN hd).sm (by decide) (by decide)⟩
 ·have e : (Zcg (Zi (qM rs)) k.toNat)[i]?.getD 0 = 0:=by
    rw [List.getElem?_eq_none (by rw [Zc6];omega)];rfl
  rw [e,Rat.zero_mul];have h1:=(SmN.zeroC 0 0).sm (by decide) (by decide);exact ⟨h1,h1⟩
open Go.ChangeShapes Go.WideShapes Go.Deep Go.RowKit
section
variable {H : Type} {enc : TypeId × Value -> H} {P : Program} {w : World} {base : Nat} {spare : Nat -> Bool} {held : Bool}
end
section
variable {H : Type} {enc : TypeId × Value -> H} {P : Program}
theorem Zj5 {f : Func} {s : ChangeSpec} {apart fresh handsOn again : Bool} {W W' : World} {args : Array Value} {v : Value} {ds gs : List (DataW H)} {before pa pv : List MemPlace}
    (hW : DataW.Whole enc P f.params.toList s.vars apart W args.toList ds gs before)
    (hres : ∀ (b : Nat) (sp : Nat -> Bool) (hd : Bool),DataW.TrodAll enc P W' b sp hd f.resultTypes.toList (v.resultList f.resultTypes.size) (s.fn H (ds ++ gs)).results [])
    (hargs : ∀ sp : Nat -> Bool,(∀ p ∈ before,sp p.block = true) -> DataW.TrodAll enc P W' 0 sp true f.params.toList args.toList (s.fn H (ds ++ gs)).args pa)
    (hvars : ∀ sp : Nat -> Bool,(∀ p ∈ before,sp p.block = true) -> DataW.TrodVars enc P W' sp s.vars (s.fn H (ds ++ gs)).vars pv)
    (hps : before = pa ++ pv) (hb : Below W.heap.size W W')
    (hok : ∀ (j : Nat) (t : TypeId) (r : Value),f.resultTypes[j]? = some t -> (v.resultList f.resultTypes.size)[j]? = some r -> Value.okWide P W' .any 0 t r) :
    s.post enc P f apart fresh handsOn again W args v W':=by
 have hlt : ∀ p ∈ before,p.block < W.heap.size:=fun p hp=>hW.lt p hp
 have hold : ∀ p ∈ before,(fun b=>decide (b < W.heap.size)) p.block = true:=fun p hp=>by simpa using hlt p hp
 refine ⟨ds,gs,before,[],pa,pv,hW,hres _ _ _,hargs _ hold,hvars _ hold,World.keptBut_mono (fun p hp=>⟨hp,?_⟩) (hb.frame (· ∈ before)),fun _=>?_⟩
 ·rw [hps,List.mem_append] at hp
  exact Or.inr hp
 ·obtain ⟨_,_,_,_,_,hz,hn⟩:=hW
  refine ⟨hok,_,_,([] ++ pa) ++ pv,⟨[] ++ pa,pv,trodAll_append (hargs _ (fun _ _=>rfl)) (hres _ _ _),hvars _ (fun _ _=>rfl),rfl,?_,?_⟩,?_⟩
  ·intro b off hp
   have hin : MemPlace.cell b off ∈ before:=by rw [hps];simpa using hp
   rw [hb.frozen (hlt _ hin)];exact hz b off hin
  ·intro ha
   have:=hn ha;rw [hps] at this
   simpa using this
  ·intro p hp _
   rw [hps]
   simpa using hp
end
theorem Zlr {α : Type} (P : Nat -> α -> Prop) (n : Nat) (h : ∀ i,i < n -> ∃ e,P i e) : ∃ es : List α,es.length = n /\ ∀ (k : Nat) (e : α),es[k]? = some e -> P k e:=by
 induction n with
 | zero=>exact ⟨[],rfl,fun k e h=>by simp at h⟩
 | succ n ih =>
  obtain ⟨es,h1,h2⟩:=ih fun i hi=>h i (by omega)
  obtain ⟨e,he⟩:=h n (by omega);refine ⟨es ++ [e],by simp [h1],fun k e' hk=>?_⟩
  rcases Nat.lt_or_ge k es.length with hlt | hge
  ·rw [List.getElem?_append_left hlt] at hk;exact h2 k e' hk
  ·rw [List.getElem?_append_right hge] at hk
   rcases Nat.eq_or_lt_of_le hge with h0 | h0
   ·rw [show k - es.length = 0 by omega] at hk
    simp at hk
    subst hk;rw [<- h0,h1];exact he
   ·rw [List.getElem?_eq_none (by simp;omega)] at hk
    cases hk
theorem Zga {w : World} {a : Addr} {v : Value} (h : w.cell? a = some v) : a = ⟨a.block,a.off,none⟩:=by
 obtain ⟨b,o,s⟩:=a
 cases s with
 | none=>rfl
 | some s =>
  exfalso
  unfold World.cell? at h
  simp at h
  split at h <;> simp at h
section
variable {H : Type} {enc : TypeId × Value -> H} {w : World} {base : Nat} {spare : Nat -> Bool} {held : Bool}
end
theorem Fr.rawC {w : World} {na : Bool} {A : Option Addr} {n c : Nat} {nb : Bool} {B : Option Addr} {m d : Nat} {r : Rat} (h : Fr w na A n c nb B m d r) : okF na (digits r.num.natAbs) nb (digits r.den) = true /\ qOf na (digits r.num.natAbs) (digits r.den) = r:=by
 have h1:=h.1.ok;have h2:=h.2.ok;have h3:=h.1.sgEq;rw [Int.natAbs_natCast] at h2;have hd:=r.den_pos;have hr:=r.reduced;unfold Nat.Coprime at hr;refine ⟨?_,?_⟩
 ·unfold okF
  rw [h1,h2,h.neg,Zf,Zf]
  simp [length_digits_pos,hd,hr]
 ·unfold qOf
  rw [h3,Zf];exact Rat.num_divInt_den r
def Zgq (q : Rat) : Nat:=max (digits q.num.natAbs).length (digits q.den).length
def Zjm (e : FX) : Nat × Bool × Rat:=(e.few,e.ok,e.q)
def Zmj (r : RX) : Nat × List (Nat × Bool × Rat):=(r.n,r.es.map Zjm)
def Zes (rs : List RX) : List (Nat × List (Nat × Bool × Rat)):=rs.map Zmj
def sigQ (Q : List (List Rat)) : List (Nat × List (Nat × Bool × Rat)):=Q.map fun r=>(r.length,r.map fun q=>(Zgq q,true,q))
theorem sig_qM {rs : List RX} : qM rs = (Zes rs).map fun x=>x.2.map fun y=>y.2.2:=by
 unfold qM Zes;rw [List.map_map]
 refine List.map_congr_left fun r _=>?_
 simp [Zmj,Zjm,Function.comp_def]
theorem Ztb {rs : List RX} : long6 rs = (decide (6 < (Zes rs).length) || (Zes rs).any fun x=>decide (6 < x.1)):=by
 unfold long6 Zes;rw [List.length_map,List.any_map];rfl
theorem sig_row {k : Nat} {r : RX} : Zb2 k r = (decide ((Zmj r).1 = k) && (Zmj r).2.all fun y=>decide (y.1 <= 64) && y.2.1):=by
 unfold Zb2 Zb1 Zmj;simp only [List.all_map]
 rfl
theorem Zug {k : Nat} {rs : List RX} : rs.all (Zb2 k) = (Zes rs).all fun x=>decide (x.1 = k) && x.2.all fun y=>decide (y.1 <= 64) && y.2.1:=by
 unfold Zes;rw [List.all_map]
 congr 1
 funext r
 exact sig_row
theorem FL.fxs {w : World} {A : Option Addr} {n c : Nat} {qs : List Rat} (h : FL w A n c qs) : ∃ es,FXL w A n c es /\ es.map FX.q = qs /\ es.map Zjm = qs.map fun q=>(Zgq q,true,q):=by
 obtain ⟨fs,h1,h2,h3,h4,rfl,h5⟩:=h
 have hk : ∀ e ∈ fs,FX.in_ w ⟨e.na,e.A,e.n,e.c,digits e.q.num.natAbs,e.nb,e.B,e.m,e.d,digits e.q.den⟩ /\ FX.q ⟨e.na,e.A,e.n,e.c,digits e.q.num.natAbs,e.nb,e.B,e.m,e.d,digits e.q.den⟩ = e.q /\ Zjm ⟨e.na,e.A,e.n,e.c,digits e.q.num.natAbs,e.nb,e.B,e.m,e.d,digits e.q.den⟩ = (Zgq e.q,true,e.q):=fun e he=>by
  have h0 : Fr w e.na e.A e.n e.c e.nb e.B e.m e.d e.q:=h4 e he;have h2:=h0.2.2.2;rw [Int.natAbs_natCast] at h2;have h6:=h0.rawC;refine ⟨⟨h0.1.2.2,h2⟩,h6.2,?_⟩;unfold Zjm FX.few FX.ok FX.q Zgq;rw [h6.1,h6.2];have e1:=h0.1.2.2.len;have e2:=h2.len;rw [e1,e2]
 refine ⟨fs.map fun e=>⟨e.na,e.A,e.n,e.c,digits e.q.num.natAbs,e.nb,e.B,e.m,e.d,digits e.q.den⟩,⟨by rw [List.length_map];exact h1,h2,h3,fun x hx=>?_,fun hn=>?_⟩,?_,?_⟩
 ·obtain ⟨e,he,rfl⟩:=List.mem_map.1 hx
  exact (hk e he).1
 ·obtain ⟨g,o,e1,hc⟩:=h5 hn
  refine ⟨g,o,e1,fun k x hx=>?_⟩;rw [List.getElem?_map] at hx;obtain ⟨e,he,rfl⟩:=Option.map_eq_some_iff.1 hx;exact hc k e he
 ·rw [List.map_map]
  exact List.map_congr_left fun e he=>(hk e he).2.1
 ·rw [List.map_map,List.map_map]
  exact List.map_congr_left fun e he=>(hk e he).2.2
theorem MFL.mxs {w : World} {A : Option Addr} {n c : Nat} {Q : List (List Rat)} (h : MFL w A n c Q) : ∃ rs,MXL w A n c rs /\ qM rs = Q /\ Zes rs = sigQ Q:=by
 obtain ⟨h1,h2,h3,h4⟩:=h
 rcases Nat.eq_zero_or_pos n with h0 | h0
 ·subst h0
  obtain rfl : Q = []:=List.eq_nil_of_length_eq_zero h1;exact ⟨[],⟨rfl,h2,h3,fun r hr=>(by cases hr),fun hn=>absurd hn (Nat.lt_irrefl _)⟩,rfl,rfl⟩
 ·obtain ⟨g,o,rfl,hc⟩:=h4 h0
  obtain ⟨rs,r1,r2⟩:=Zlr (fun i (r : RX)=>w.cell? ⟨g,o + i,none⟩ = some (.slice r.A r.n r.c) /\ FXL w r.A r.n r.c r.es /\ r.es.map FX.q = Q[i]?.getD [] /\ Zmj r = ((Q[i]?.getD []).length,(Q[i]?.getD []).map fun q=>(Zgq q,true,q))) n (fun i hi=>by
   have hq : Q[i]? = some Q[i]:=List.getElem?_eq_getElem (by omega);obtain ⟨A',n',c',k0,hF⟩:=hc i _ hq;obtain ⟨es,e1,e2,e3⟩:=hF.fxs;refine ⟨⟨A',n',c',es⟩,k0,e1,by rw [hq];exact e2,?_⟩;rw [hq,Option.getD_some];unfold Zmj
   rw [e3,hF.len])
  have ext : ∀ {α : Type} (f : RX -> α) (g : List Rat -> α),(∀ (i : Nat) (r : RX),rs[i]? = some r -> f r = g (Q[i]?.getD [])) -> rs.map f = Q.map g:=fun f g hfg=>by
   apply List.ext_getElem?
   intro i;rw [List.getElem?_map,List.getElem?_map]
   by_cases hi : i < n
   ·have hr:=List.getElem?_eq_getElem (l:=rs) (i:=i) (by omega)
    have hq : Q[i]? = some Q[i]:=List.getElem?_eq_getElem (by omega);have:=hfg i _ hr;rw [hq,Option.getD_some] at this;rw [hr,hq,Option.map_some,Option.map_some,this]
   ·rw [List.getElem?_eq_none (l:=rs) (by omega),List.getElem?_eq_none (l:=Q) (by omega)];rfl
  refine ⟨rs,⟨r1,h2,h3,fun r hr=>?_,fun _=>⟨g,o,rfl,fun k r hk=>(r2 k r hk).1⟩⟩,?_,ext Zmj (fun r=>(r.length,r.map fun q=>(Zgq q,true,q))) (fun i r hr=>(r2 i r hr).2.2.2)⟩
  ·obtain ⟨k,hk,rfl⟩:=List.getElem_of_mem hr
   exact (r2 k _ (List.getElem?_eq_getElem hk)).2.1
  ·have:=ext (fun r=>r.es.map FX.q) id (fun i r hr=>(r2 i r hr).2.2.1)
   rw [List.map_id] at this;exact this
theorem LeN.mono {i j : Nat} {q : Rat} (h : LeN i q) (hij : i <= j) : LeN j q:=⟨Nat.le_trans h.1 (Zdv hij),Nat.le_trans h.2 (Zdv hij)⟩
def oT (d : Nat -> Rat) (b : Nat -> Int) (K t k : Nat) : Rat:=if k < t /\ k ≠ K then d k + Rat.divInt (b k) 2 else d k
def Zef (b : Nat -> Int) (K t : Nat) : Bool:=(List.range t).all fun k=>decide (k = K) || decide (b k = 0)
section
variable {d : Nat -> Rat} {b : Nat -> Int} {K t : Nat}
theorem Zpe : Zef b K 0 = true:=rfl
theorem Zpg : Zef b K (t + 1) = (Zef b K t && (decide (t = K) || decide (b t = 0))):=by
 unfold Zef;rw [List.range_succ,List.all_append]
 simp
theorem calmB_iff : Zef b K t = true ↔ ∀ k,k < t -> k ≠ K -> b k = 0:=by
 unfold Zef;rw [List.all_eq_true]
 constructor
 ·intro h k hk hne
  have:=h k (List.mem_range.2 hk)
  simpa [hne] using this
 ·intro h k hk
  by_cases e : k = K
  ·simp [e]
  ·simp [e,h k (List.mem_range.1 hk) e]
theorem oT_zero : oT d b K 0 = d:=by
 funext k
 unfold oT;rw [if_neg (by omega)]
theorem oT_list (m : Nat) (ht : t < m) (hK : t ≠ K) : ((List.range m).map (oT d b K t)).set t (d t + Rat.divInt (b t) 2) = (List.range m).map (oT d b K (t + 1)):=by
 apply List.ext_getElem?
 intro j;rw [List.getElem?_set,List.length_map,List.length_range,List.getElem?_map,List.getElem?_map]
 by_cases hj : t = j
 ·subst hj
  rw [if_pos rfl,if_pos ht,List.getElem?_range ht,Option.map_some];unfold oT;rw [if_pos ⟨by omega,hK⟩]
 ·rw [if_neg hj]
  by_cases hjm : j < m
  ·rw [List.getElem?_range hjm,Option.map_some,Option.map_some]
   unfold oT
   by_cases h1 : j < t /\ j ≠ K
   ·rw [if_pos h1,if_pos ⟨by omega,h1.2⟩]
   ·rw [if_neg h1,if_neg (by omega)]
  ·rw [List.getElem?_eq_none (by simpa using hjm)];rfl
theorem oT_self (m : Nat) (hK : t = K) : (List.range m).map (oT d b K t) = (List.range m).map (oT d b K (t + 1)):=by
 apply List.map_congr_left
 intro j _;unfold oT
 by_cases h1 : j < t /\ j ≠ K
 ·rw [if_pos h1,if_pos ⟨by omega,h1.2⟩]
 ·rw [if_neg h1,if_neg (by omega)]
theorem oT_le {n k : Nat} (hd : ∀ i,LeN n (d i)) (hb : ∀ i,-128 <= b i /\ b i <= 127) : LeN (n + 1) (oT d b K t k):=by
 unfold oT
 split
 ·exact (hd k).half (b k) (by have:=hb k;omega)
 ·exact (hd k).mono (by omega)
end
theorem Zro {A : Nat -> Nat -> Rat} {n K : Nat} {b : Nat -> Int} (hA : ∀ i k,i < n -> k < n -> A i k = A k i) (hp : posP A n) (hU : ∀ i j,i < n -> j < i -> Zk A i i j = 0) (hK : K < n) (hc : 0 < A K K) {x y : Nat -> Rat} (hx : ∀ i,i < n -> x i = A i K / A K K) (hy : ∀ i,i < n -> y i = oT (fun i=>A i K / A K K) b K n i) :
    bil A n x x * A K K = 1 /\ Zj1 (bil A n x x) (bil A n y y) = if Zef b K n = true then 0 else -1:=by
 have hc0 : A K K ≠ 0:=fun e=>by rw [e] at hc;exact absurd hc (by decide)
 obtain ⟨δ,hδ⟩ : ∃ δ : Nat -> Rat,δ = fun i=>if i ≠ K then Rat.divInt (b i) 2 else 0:=⟨_,rfl⟩
 have hδ' : ∀ i,δ i = if i ≠ K then Rat.divInt (b i) 2 else 0:=fun i=>by rw [hδ]
 have hδK : δ K = 0:=by rw [hδ];simp
 clear hδ;obtain ⟨h1,h2⟩:=Zsn hA hp hU hK hc0 hδK
 have ex : bil A n x x = 1 / A K K:=by
  rw [Zcv (y:=fun i=>A i K / A K K) hx,Ze8,Zcv (y:=fun i=>A i K / A K K) hx];exact h1
 have ey : bil A n y y = 1 / A K K + bil A n δ δ:=by
  have e : ∀ i,i < n -> y i = A i K / A K K + δ i:=fun i hi=>by
   rw [hy i hi,hδ' i];unfold oT
   by_cases e : i = K
   ·rw [if_neg (fun h=>h.2 e),if_neg (fun h=>h e)];grind
   ·rw [if_pos ⟨hi,e⟩,if_pos e]
  rw [Zcv (y:=fun i=>A i K / A K K + δ i) e,Ze8,Zcv (y:=fun i=>A i K / A K K + δ i) e];exact h2
 refine ⟨by rw [ex];grind,?_⟩
 by_cases hb : Zef b K n = true
 ·rw [if_pos hb]
  have h0 : bil A n δ δ = 0:=by
   rw [Zcv (y:=fun _=>0 * A 0 K + 0 * A 0 K) (fun i hi=>by
    rw [hδ' i]
    by_cases e : i = K
    ·rw [if_neg (fun h=>h e)];grind
    ·rw [if_pos e,calmB_iff.1 hb i hi e,Rat.zero_divInt];grind),Zmq (x:=fun _=>A 0 K) (y:=fun _=>A 0 K)]
   grind
  rw [ex,ey,h0];exact cmpQ_zero.2 (by grind)
 ·rw [if_neg hb]
  have h0:=Zo0 hp δ
  have hne : bil A n δ δ ≠ 0:=fun e=>hb (calmB_iff.2 fun k hk hkK=>by
   have h3:=Zup hp e hk;rw [hδ' k,if_pos hkK,Rat.divInt_eq_div] at h3
   have h4 : ((b k : Int) : Rat) = 0:=by grind
   exact_mod_cast h4)
  have hlt : bil A n x x < bil A n y y:=by
   rw [ex,ey];have : 0 < bil A n δ δ:=Rat.lt_of_le_of_ne h0 (Ne.symm hne)
   grind
  unfold Zj1;rw [if_pos hlt]
theorem Zsi {es : List FX} {qs : List Rat} (h : es.map Zjm = qs.map fun q=>(Zgq q,true,q)) (hq : ∀ q ∈ qs,Zgq q <= 64) : Zb1 es = true:=by
 unfold Zb1;rw [List.all_eq_true];intro e he;have h1 : Zjm e ∈ es.map Zjm:=List.mem_map.2 ⟨e,he,rfl⟩;rw [h] at h1;obtain ⟨q,h2,h3⟩:=List.mem_map.1 h1;have h4 : Zgq q = e.few:=congrArg Prod.fst h3;have h5 : true = e.ok:=congrArg (fun x=>x.2.1) h3;unfold FX.fine64;rw [<- h4,<- h5]
 simp [hq q h2]
theorem fewQ_le {q : Rat} {k : Nat} (h : LeN k q) : Zgq q <= k + 1:=by
 have h1 : q.num.natAbs < pw (k + 1):=Nat.lt_of_le_of_lt h.1 (Zc7 (by omega));have h2 : q.den < pw (k + 1):=Nat.lt_of_le_of_lt h.2 (Zc7 (by omega));unfold Zgq;have:=(Zm _ _).2 h1;have:=(Zm _ _).2 h2;omega
end Go.Proofs.YtpehacgjclkhmaaGreat
