/- The reference of layer 4: Cleared of whole numbers. The -/
import Derived.ProofKit
import Derived.Deep.Slices
import Derived.Deep.Fields
import Derived.ChangeSame
import Derived.Test.YthappeninglakaaProg
import Derived.Test.YthappeninglakaaZq28
set_option maxRecDepth 100000
set_option maxHeartbeats 8000000
set_option linter.unusedSimpArgs false
set_option linter.unusedVariables false
namespace Go.Proofs.Ythappeninglakaa
open Go.RowKit
attribute [local go_sem] Zj
theorem Zs6 {w : World} {A : Option Addr} {n c : Nat} {zs : List Int} (h : FL w A n c (rl zs)) {k : Nat} (hk : k < n) : ∃ g o na A' n' c' nb B' m' d',A = some ⟨g,o,none⟩ /\ w.cell? ⟨g,o + k * 4,none⟩ = some (.bool na) /\ w.cell? ⟨g,o + k * 4 + 1,none⟩ = some (.slice A' n' c') /\ w.cell? ⟨g,o + k * 4 + 2,none⟩ = some (.bool nb) /\ w.cell? ⟨g,o + k * 4 + 3,none⟩ = some (.slice B' m' d') /\ Wd w na A' n' c' (zs[k]?.getD 0) /\ Wd w nb B' m' d' 1:=by
 obtain ⟨es,e1,e2,e3,e4,e5,e6⟩:=h;obtain ⟨g,o,rfl,hc⟩:=e6 (by omega);obtain ⟨x,hx⟩ : ∃ x,es[k]? = some x:=⟨_,List.getElem?_eq_getElem (by omega)⟩;obtain ⟨p0,p1,p2,p3⟩:=hc k x hx;rw [<- Nat.add_assoc] at p1 p2 p3
 have hxq : x.q = ((zs[k]?.getD 0 : Int) : Rat):=by
  have h1 : (es.map FE.q)[k]? = some x.q:=by rw [List.getElem?_map,hx];rfl
  rw [e5] at h1;unfold rl at h1;rw [List.getElem?_map] at h1
  cases hz : zs[k]? with
  | none=>rw [hz] at h1;cases h1
  | some z=>rw [hz] at h1;injection h1 with h1;exact h1.symm
 have h1:=e4 x (List.mem_of_getElem? hx);unfold FE.in_ at h1;rw [hxq] at h1;exact ⟨g,o,_,_,_,_,_,_,_,_,rfl,p0,p1,p2,p3,by have:=h1.1;rwa [Rat.num_intCast] at this,by have:=h1.2;rwa [Rat.den_intCast] at this⟩
theorem Zri (na nb : Bool) (A B : Option Addr) (n c m d : Nat) (y : Int) (w : World) (ha : Wd w na A n c 1) (hb : Wd w nb B m d y) :
    Calls Try.prog 49 #[.agg #[.bool na,.slice A n c],.agg #[.bool nb,.slice B m d]] w fun e w'=>Below w.heap.size w w' /\ ∃ neg A n c,e = .returned (.tuple #[.agg #[.bool neg,.slice A n c],.int .i64 0]) /\ Wd w' neg A n c y:=by
 have h:=Zpa na nb A B n c m d 1 y w ha hb (by rw [Int.one_mul];exact hb.small)
 rwa [Int.one_mul] at h
theorem Zqr (A : Option Addr) (n c : Nat) (zs : List Int) (w : World) (h : FL w A n c (rl zs)) (hn : n <= 100) :
    Calls Try.prog 43 #[.slice A n c] w (Zi8 w (Zdq (Zf zs))):=by
 have hzl : Hid (zs.length = n):=Zb (by have h1:=h;obtain ⟨es,e1,-,-,-,e5,-⟩:=h1;have h2:=congrArg List.length e5;rw [List.length_map,e1] at h2;unfold rl at h2;rw [List.length_map] at h2;exact h2.symm);obtain ⟨iw,hi,hz0,hz1,hz2⟩:=info_parts Zfm
 have hmx : Try.prog.follows .mixedOrders = true:=by kernel_rfl
 obtain ⟨hnc,hcm⟩:=Zqc h;unfold maxLen at hcm;replace h:=Zb h;go_enter Try.func43,Try.ntmps43;go_wp2_with fail;refine (Zdw 1 w (by omega) (by omega)).mono ?_;rintro e w1 ⟨hb1,nb1,B1,m1,d1,rfl,hW1⟩;obtain ⟨X2,hX2,hB2,q2,k2,far2,s2⟩:=Z8 26 #[.bool false,.slice none 0 0] hb1 hb1.size;obtain ⟨X3,hX3,hB3,q3,k3⟩:=Zu nb1 B1 m1 d1 hB2 hb1.size q2;obtain ⟨a0,a1,f0,f1⟩:=q2.two;have hD:=Zb (k3.1 _ _ _ _ _ (k2 _ _ _ _ _ hW1));have hg1 : Hid (w.heap.size <= w1.heap.size):=Zb hb1.size;replace q3:=Zb q3;replace hB3:=Zb hB3;clear k2 far2 hB2 q2 hb1 hW1 k3;go_wp2_with fail;clear a0 a1 f0 f1 hX2 hX3;obtain ⟨gD,hgD⟩ : ∃ g,w1.heap.size = g:=⟨_,rfl⟩;rw [hgD] at q3 hg1 ⊢;clear hgD
 go_loopg [4] n (fun k iv wr=>∃ (i : Nat) (nb : Bool) (B : Option Addr) (m d : Nat),i + k = n /\ iv = .int .i64 i /\ Blk wr gD 26 #[.bool nb,.slice B m d] /\ Wd wr nb B m d 1 /\ Below w.heap.size w wr)
 case atStart=>exact ⟨0,nb1,B1,m1,d1,by omega,rfl,q3.out,hD.out,hB3.out⟩
 case round =>
  clear q3 hD hB3;obtain ⟨i,nb,B,m,d,hik,rfl,qd,hWd,hB⟩:=hrel
  cases gk with
  | zero =>
   obtain rfl : i = n:=by omega
   have tge : decide ((i : Int) < (i : Int)) = false:=by simp
   replace qd:=Zb qd;replace hWd:=Zb hWd;replace hB:=Zb hB;go_wp2_with fail
   go_loopg [10,11] i (fun k ov jv wr=>∃ j : Nat,j + k = i /\ jv = .int .i64 j /\ OwnP 26 wr (gD + 1) ov (zs.take j) /\ Blk wr gD 26 #[.bool nb,.slice B m d] /\ Wd wr nb B m d 1 /\ Below w.heap.size w wr)
   case atStart=>exact ⟨0,by omega,rfl,OwnP.nil _ _ _,qd.out,hWd.out,hB.out⟩
   case round =>
    clear qd hWd hB;obtain ⟨j,hjk,rfl,hown,qd,hWd,hB⟩:=hrel
    cases gk with
    | zero =>
     obtain rfl : j = i:=by omega
     have tge2 : decide ((j : Int) < (j : Int)) = false:=by simp
     rw [List.take_of_length_le (by rw [hzl.out];exact Nat.le_refl _)] at hown;obtain ⟨A3,c3,hv3,hP3⟩:=hown.poly;subst hv3;rw [hzl.out] at hP3 ⊢;clear hown qd hWd;go_wp2_with fail;refine (Zh8 _ _ _ _ _ hP3 (by omega)).mono ?_;rintro e w4 ⟨v4,rfl,hv4,hb4⟩;obtain ⟨A5,c5,hv5,hP5⟩:=hv4.poly;subst hv5;have hB4:=hB.trans (hb4.mono hB.size);obtain ⟨T,hTd⟩ : ∃ T,Zf zs = T:=⟨_,rfl⟩
     have hTlen : T.length <= 100:=by rw [<- hTd];exact Nat.le_trans (Znh zs) (by rw [hzl.out];exact hn)
     have hTe : Hid (∀ x,T.getLast? = some x -> x ≠ 0):=Zb (by rw [<- hTd];exact Zb0 zs);rw [hTd] at hP5 ⊢;obtain ⟨t,hTl⟩ : ∃ t,T.length = t:=⟨_,rfl⟩;rw [hTl] at hP5 hTlen ⊢;have ht9 : Hid (t <= 900):=Zb (by omega);have hBA:=Zb hB4;have hBA0 : Hid (w.heap.size <= w4.heap.size):=Zb hB4.size;replace hTl:=Zb hTl;replace hTd:=Zb hTd;clear hv4 hb4 hP3 hB hB4;have hTs : Hid (t = 0 \/ signP T ≠ 0):=Zb (by have:=Zey hTe.out;rw [hTl.out] at this;exact this);obtain ⟨h5a,h5b⟩:=hP5.cap;unfold maxLen at h5b
     by_cases ht0 : t = 0
     ·skip
      have hT0 : T = []:=List.eq_nil_of_length_eq_zero (by rw [hTl.out];exact ht0);have q7a : decide ((0 : Int) < (t : Int)) = false:=decide_eq_false (by omega);have q7b : decide (0 < t) = false:=decide_eq_false (by omega);have hsg:=Zb (show Zdq T = Zh T by rw [hT0];rfl);have q7c : Hid ((Zh T).length = t):=Zb (by rw [Zd9];exact hTl.out);replace ht0:=Zb ht0;replace hT0:=Zb hT0;replace hP5:=Zb hP5;go_wp2_with fail;refine (Zdy _ t c5 T w4 hP5.out ht9.out hTs.out).mono ?_;rintro e w6 ⟨v6,rfl,hv6,hb6⟩;replace hBA:=Zb (hBA.out.trans (hb6.mono hBA.out.size));obtain ⟨A6,c6,hv7,hP6⟩:=hv6.poly;subst hv7;rw [q7c.out] at hP6 ⊢;replace hP6:=Zb hP6;clear hv6 hb6 hP5;go_wp2_with fail
      go_loopg [18] 0 (fun k jv wr=>jv = .int .i64 0 /\ wr = w6)
      case atStart=>exact ⟨rfl,rfl⟩
      case round =>
       obtain ⟨rfl,rfl⟩:=hrel;go_wp2_with fail;go_ret;exact ⟨_,_,_,rfl,(by rw [hTd.out];exact (by rw [hsg.out];exact hP6.out)),hBA.out⟩
     have q7a : decide ((0 : Int) < (t : Int)) = true:=decide_eq_true (by omega);have q7b : decide (0 < t) = true:=decide_eq_true (by omega);obtain ⟨j1,hj1⟩ : ∃ j1 : Nat,t = j1 + 1:=⟨t - 1,by omega⟩;obtain ⟨b0,ob0,e0,Ae,ke,ce,hA0,cc1,cc2,hwe0⟩:=hP5.at_ (k:=j1) (by omega)
     have hlc : lcZ T = T[j1]?.getD 0:=by unfold lcZ;rw [hTl.out,hj1];rfl
     have hnn:=hwe0.1
     have hji : (t : Int) - 1 = (j1 : Int):=by omega
     have hwr : IntKind.i64.wrap ((t : Int) - 1) = (j1 : Int):=by rw [hji,IntKind.wrap_i64];omega
     have hjl : (j1 : Int) < (t : Int):=by omega
     have hj0 : (0 : Int) <= (j1 : Int):=by omega
     have hjl2 : j1 < t:=by omega
     have q7c : Hid ((Zh T).length = t):=Zb (by rw [Zd9];exact hTl.out);rw [<- hlc] at hnn;subst hA0;replace hj1:=Zb hj1;replace hji:=Zb hji;replace hlc:=Zb hlc;replace ht0:=Zb ht0;replace hP5:=Zb hP5;replace hnn:=Zb hnn;clear hwe0;go_wp2_with fail;refine (Zdy _ t c5 T w4 hP5.out ht9.out hTs.out).mono ?_;rintro e w6 ⟨v6,rfl,hv6,hb6⟩;replace hBA:=Zb (hBA.out.trans (hb6.mono hBA.out.size));clear cc1 cc2 hb6 hP5
     cases e0
     case false =>
      have hsg:=Zb (show Zdq T = Zh T by
       unfold Zdq
       rw [if_neg (of_decide_eq_false hnn.out.symm)])
      obtain ⟨A6,c6,hv7,hP6⟩:=hv6.poly;subst hv7;rw [q7c.out] at hP6 ⊢;replace hP6:=Zb hP6;clear hv6;go_wp2_with fail
      go_loopg [18] 0 (fun k jv wr=>jv = .int .i64 0 /\ wr = w6)
      case atStart=>exact ⟨rfl,rfl⟩
      case round =>
       obtain ⟨rfl,rfl⟩:=hrel;go_wp2_with fail;go_ret;exact ⟨_,_,_,rfl,(by rw [hTd.out];exact (by rw [hsg.out];exact hP6.out)),hBA.out⟩
     case true =>
      have hsg:=Zb (show Zdq T = Zfw (Zh T) by
       unfold Zdq
       rw [if_pos (of_decide_eq_true hnn.out.symm)])
      rcases hv6.pown with ⟨-,h0⟩ | ⟨gp,cp,zs,rfl,hgp,hcp1,hcp2,hR⟩
      ·exfalso
       have:=q7c.out;rw [h0] at this
       simp at this
       have:=ht0.out;omega
      clear hv6;rw [q7c.out] at hcp1;rw [q7c.out];have hgp2 : w.heap.size <= gp:=Nat.le_trans (by have:=hBA0.out;omega) hgp;unfold maxLen at hcp2;obtain ⟨P,hPd⟩ : ∃ P,Zh T = P:=⟨_,rfl⟩;rw [hPd] at hR q7c hsg;replace hPd:=Zb hPd;replace hR:=Zb hR;go_wp2_with fail
      go_loopg [18] t (fun k jv wr=>∃ (i : Nat) (L : List Int),i + k = t /\ jv = .int .i64 i /\ POwn 26 wr gp (L ++ zs) /\ Hid (L.length = t) /\ Hid (∀ j,j < i -> L[j]?.getD 0 = -(P[j]?.getD 0)) /\ Hid (∀ j,i <= j -> L[j]?.getD 0 = P[j]?.getD 0) /\ Below w.heap.size w wr)
      case atStart=>exact ⟨0,P,by omega,rfl,hR.out,q7c,Zb (fun j h=>absurd h (Nat.not_lt_zero _)),Zb (fun j h=>rfl),hBA.out⟩
      case round =>
       clear hR hBA;obtain ⟨i,L,hik,rfl,hL,hLl,hL1,hL2,hB⟩:=hrel;obtain ⟨wB,rfl⟩ : ∃ x : World,x = wr:=⟨_,rfl⟩
       cases gk with
       | zero =>
        obtain rfl : i = t:=by omega
        have hLe : L = Zfw P:=by
         apply List.ext_getElem
         ·rw [hLl.out,Zft,q7c.out]
         ·intro j h1 h2
          have h3:=hL1.out j (by rw [hLl.out] at h1;exact h1);rw [List.getElem?_eq_getElem h1,List.getElem?_eq_getElem (by rw [q7c.out];rw [hLl.out] at h1;exact h1)] at h3
          simpa [Zfw] using h3
        have hP6:=hL.pre (xs:=L) (c:=cp) (by rw [hLl.out];exact hcp1) (by unfold maxLen;exact hcp2);rw [hLl.out,hLe] at hP6;replace hP6:=Zb hP6;replace hLe:=Zb hLe;replace hB:=Zb hB
        have v0 : decide ((i : Int) < (i : Int)) = false:=by simp
        clear hL;go_wp2_with fail;go_ret;exact ⟨_,_,_,rfl,(by rw [hTd.out];exact (by rw [hsg.out];exact hP6.out)),hB.out⟩
       | succ gk' =>
        obtain rfl : gk' = t - (i + 1):=by omega
        have hin : i < t:=by omega
        have v0 : decide ((i : Int) < (t : Int)) = true:=by simp;omega
        have v1 : (i : Int) < (t : Int):=by omega
        have hil : i < L.length:=by rw [hLl.out];exact hin
        have hil2 : i < P.length:=by rw [q7c.out];exact hin
        obtain ⟨n1,A1,k1,c1,p0,p1,hw1⟩:=hL.at_ (i:=i) (by rw [List.length_append];omega);rw [List.getElem?_append_left hil,hL2.out i (Nat.le_refl _)] at hw1;replace hL:=Zb hL;replace hB:=Zb hB;replace hw1:=Zb hw1;replace hil:=Zb hil;replace hil2:=Zb hil2;go_wp2_with fail;refine (Zpd n1 A1 k1 c1 _ wB hw1.out).mono ?_;rintro e w7 ⟨hb7,n2,A2,k2,c2,rfl,hw2⟩;have hL7:=hL.out.below hb7;have hB7:=hB.out.trans (hb7.mono hB.out.size);have f0:=hL7.frozen (i * 2);have f1:=hL7.frozen (i * 2 + 1);obtain ⟨n3,A3,k3,c3,r0,r1,-⟩:=hL7.at_ (i:=i) (by rw [List.length_append];have:=hil.out;omega);obtain ⟨Z,hZ,hBZ,hLZ,-,-,-⟩:=hL7.put hil.out hw2 hB7 hgp2;replace hLZ:=Zb hLZ;replace hBZ:=Zb hBZ;clear hL7 hB7 hb7 p0 p1 hw1 hL hB hw2;go_wp2_with fail;(try rw [hZ])
        go_roundg (t - (i + 1))
        case measure=>omega
        case rel=>exact ⟨i + 1,L.set i (-(P[i]?.getD 0)),by omega,by go_num,hLZ.out,Zb (by rw [List.length_set];exact hLl.out),Zb (fun j hj=>by
            rcases Nat.lt_or_ge j i with h' | h'
            ·rw [List.getElem?_set_ne (by omega)];exact hL1.out j h'
            ·obtain rfl : j = i:=by omega
             rw [List.getElem?_set_self hil.out];rfl),Zb (fun j hj=>by rw [List.getElem?_set_ne (by omega)];exact hL2.out j (by omega)),hBZ.out⟩
    | succ gk' =>
     obtain rfl : gk' = i - (j + 1):=by omega
     have hin : j < i:=by omega
     have hst : Hid (zs.take j ++ [zs[j]?.getD 0] = zs.take (j + 1)):=Zb (by rw [List.take_add_one,List.getElem?_eq_getElem (by rw [hzl.out];exact hin)];rfl)
     have tlt : decide ((j : Int) < (i : Int)) = true:=by simp;omega
     have bI : (j : Int) < (i : Int):=by omega
     obtain ⟨b,o,na,A1,n1,c1,nB,B2,m2,d2,rfl,p0,p1,p2,p3,hNum,hDen⟩:=Zs6 h.out hin;replace p0:=Za hB p0;replace p1:=Za hB p1;replace p2:=Za hB p2;replace p3:=Za hB p3;replace hDen:=hDen.below hB;replace hNum:=Zb (hNum.below hB);replace hown:=Zb hown;obtain ⟨x0,x1,y0,y1⟩:=qd.two;go_wp2_with fail;have hSv101 : Hid (∀ wx,Below wr.heap.size wr wx -> wx.cell? ⟨gD,0,none⟩ = some (.bool nb) /\ wx.cell? ⟨gD,1,none⟩ = some (.slice B m d) /\ wx.cell? ⟨b,o + j * 4 + 2,none⟩ = some (.bool nB) /\ wx.cell? ⟨b,o + j * 4 + 3,none⟩ = some (.slice B2 m2 d2)):=Zb (fun wx hbx=>⟨Za hbx x0,Za hbx x1,Za hbx p2,Za hbx p3⟩);have hr101 : Below wr.heap.size wr wr.drew:=Zr (Below.refl _ _) 1;refine wp_heldS [] hmx hSv101 hr101 (fun hxs101=>?_);refine Zt2 6 [0,1,2,3,4,5] rfl (by kernel_rfl) (hSv101.out _ hr101) ?_
     iterate 6 (refine tkA ?_;try simp only [Act.put,putL_a,putL_z,putL_s,putG_a,putG_s,putG_z])
     refine tk0 ?_;refine Za0 [(11,12),(12,13)] [(6,66),(7,59),(11,12),(12,13)] (fun i=>match i with | 7=>[8,9,10] | _=>[]) [(6,66),(7,59),(8,67),(9,68),(10,69),(11,12),(12,13)] (Zl wr.heap.size (T2 (1) (0)) (1) (0) 6 7 8 9 10 11 12) 3 (by kernel_rfl) (fun _ _ _ _ _ hb h=>Zba (fun _ _ _=>T2.stays) hb h) (fun wx h=>hSv101.out _ (hr101.trans (h.mono hr101.size))) ?hop101 ?hfin101
     case hop101 =>
      intro p hp;simp only [List.mem_cons,List.not_mem_nil,or_false] at hp;simp only [List.map_cons,List.map_nil,Zae,Act.put,putL_a,putL_z,putL_s]
      rcases hp with rfl | rfl | rfl | rfl
      ·intro ν wx hb hP
       have hbx:=hr101.trans (hb.mono hr101.size);refine Zo (i:=6) rfl (fun K hK=>?_);go_simp;refine (Zpr nb nB B B2 m d m2 d2 wx (hWd.below hbx) (hDen.below hbx)).mono ?_;rintro e w5 ⟨hb5,na5,A5,k5,c5,nb5,B5,m5,d5,rfl,hf5,hg5⟩;exact hK.out _ _ ⟨_,rfl,(by simp only [Zl];exact ⟨_,_,_,_,_,_,_,_,rfl,hf5,hg5⟩),hb5,trivial,fun h=>by simp at h⟩
      ·intro ν wx hb hP
       have h0:=hP (6,66) (by simp) (by kernel_rfl);simp only [Zl] at h0;obtain ⟨na5,A5,k5,c5,nb5,B5,m5,d5,hν,hf5,hg5⟩:=h0;rw [hν];refine Zo (i:=7) rfl (fun K hK=>?_);go_simp;refine hK.out _ _ ⟨_,rfl,(by simp only [Zl];exact ⟨_,_,_,_,_,_,_,_,rfl,hf5,hg5⟩),Below.refl _ _,?_,fun h=>by simp at h⟩;exact ⟨_,.agg #[.bool na5,.slice A5 k5 c5],rfl,Or.inl ⟨by kernel_rfl,fun W2 _=>by go_simp⟩,(by simp only [Zl];exact ⟨_,_,_,_,rfl,hf5⟩),⟨_,.agg #[.bool nb5,.slice B5 m5 d5],rfl,Or.inl ⟨by kernel_rfl,fun W2 _=>by go_simp⟩,(by simp only [Zl];exact ⟨_,_,_,_,rfl,hg5⟩),⟨_,.int .i64 0,rfl,Or.inl ⟨by kernel_rfl,fun W2 _=>by go_simp⟩,by simp [Zl],trivial⟩⟩⟩
      ·intro ν wx hb hP
       refine Zo (i:=11) rfl (fun K hK=>?_);go_simp
       exact hK.out _ _ ⟨_,rfl,(by simp only [Zl];exact ⟨_,rfl,hb.size,Blk.new _ _ _⟩),(Below.refl _ _).alloc (Nat.le_refl _) _,trivial,(fun _ q hq u hu=>by
        simp only [List.mem_cons,List.not_mem_nil,or_false] at hq
        rcases hq with rfl | rfl <;> (simp only [Zl] at hu;exact NewW.ne hu))⟩
      ·intro ν wx hb hP
       refine Zo (i:=12) rfl (fun K hK=>?_);go_simp
       exact hK.out _ _ ⟨_,rfl,(by simp only [Zl];exact ⟨_,rfl,hb.size,Blk.new _ _ _⟩),(Below.refl _ _).alloc (Nat.le_refl _) _,trivial,(fun _ q hq u hu=>by
        simp only [List.mem_cons,List.not_mem_nil,or_false] at hq
        rcases hq with rfl | rfl <;> (simp only [Zl] at hu;exact NewW.ne hu))⟩
     case hfin101 =>
      intro ν wx hb hP hNE;have h0:=hP (6,66) (by simp);have h1:=hP (7,59) (by simp);have h3:=hP (10,69) (by simp);have hx0:=hP (8,67) (by simp);have hx1:=hP (9,68) (by simp);have ha0:=hP (11,12) (by simp);have ha1:=hP (12,13) (by simp);simp only [Zl] at h0 h1 hx0 ha0 hx1 ha1;obtain ⟨a0,a1,a2,a3,a4,a5,a6,a7,h0,-,-⟩:=h0;obtain ⟨e0,e1,e2,e3,e4,e5,e6,e7,h1,-,-⟩:=h1;obtain ⟨q0n,q0A,q0k,q0c,hx0,q0f⟩:=hx0;obtain ⟨gq0,ha0,kv0,qv0⟩:=ha0;obtain ⟨q1n,q1A,q1k,q1c,hx1,q1f⟩:=hx1;obtain ⟨gq1,ha1,kv1,qv1⟩:=ha1
      have hgne : gq0 ≠ gq1:=fun h=>by
       refine hNE (11,12) (by simp) (12,13) (by simp) (by simp) ?_;rw [ha0,ha1,h]
      simp only [List.map_cons,List.map_nil,Zae,Act.put,putL_a,putL_z,putL_s];rw [h0,h1,hx0,hx1,(show ν 69 = Value.int .i64 0 by simpa [Zl] using h3),ha0,ha1];clear h0 h1 h3 hx0 ha0 hx1 ha1 hP ν hNE;have hbx:=hr101.trans (hb.mono hr101.size);obtain ⟨f00,f10,f20,f30⟩:=qv0.two;obtain ⟨Zq0,hZ0,hbZq0,qZ0,kZ0⟩:=Zu q0n q0A q0k q0c hbx kv0 qv0;replace qv1:=kZ0.2.1 _ _ _ hgne.symm qv1
      refine wpAnyL_o 13 fun K hK=>?_
      go_simp;(try rw [hZ0]);refine hK.out _ _ (fun _=>hSv101.out _ hbZq0) ?_;clear hK K hZ0 f00 f10 f20 f30
      try simp only [Act.put,putL_a,putL_z,putL_s]
      obtain ⟨f01,f11,f21,f31⟩:=qv1.two;obtain ⟨Zq1,hZ1,hbZq1,qZ1,kZ1⟩:=Zu q1n q1A q1k q1c hbZq0 kv1 qv1
      refine wpAnyL_o 14 fun K hK=>?_
      go_simp;(try rw [hZ1]);refine hK.out _ _ (fun _=>hSv101.out _ hbZq1) ?_;clear hK K hZ1 f01 f11 f21 f31
      try simp only [Act.put,putL_a,putL_z,putL_s]
      refine Zt1 1 [15] rfl (by kernel_rfl) (hSv101.out _ hbZq1) ?_
      (refine tkA ?_;try simp only [Act.put,putL_a,putL_z,putL_s,putG_a,putG_s,putG_z])
      refine tk0 ?_;refine wpAnyL_fin ?_;have q0b:=Zb (kZ1.2.1 _ _ _ hgne qZ0);have q1b:=Zb qZ1;replace q0f:=Zb (kZ1.1 _ _ _ _ _ (kZ0.1 _ _ _ _ _ q0f));have qkv:=kv0;clear kZ0 kZ1 qZ0 qZ1 kv0 kv1 hbx hb hr101 hSv101 hxs101 hbZq0;replace qd:=Zb (Zd hbZq1 qd);replace hWd:=Zb (hWd.below hbZq1);replace hown:=Zb (hown.out.kept hbZq1);replace hNum:=hNum.out.below hbZq1;replace p0:=Za hbZq1 p0;replace p1:=Za hbZq1 p1;obtain ⟨u0,u1,-,-⟩:=q0b.out.two;replace hB:=hB.trans (hbZq1.mono hB.size);clear x0 x1 y0 y1 p2 p3 hDen hbZq1 q1b q1f;go_wp2_with fail;have hSv102 : Hid (∀ wx,Below Zq1.heap.size Zq1 wx -> wx.cell? ⟨gq0,0,none⟩ = some (.bool q0n) /\ wx.cell? ⟨gq0,1,none⟩ = some (.slice q0A q0k q0c) /\ wx.cell? ⟨b,o + j * 4,none⟩ = some (.bool na) /\ wx.cell? ⟨b,o + j * 4 + 1,none⟩ = some (.slice A1 n1 c1)):=Zb (fun wx hbx=>⟨Za hbx u0,Za hbx u1,Za hbx p0,Za hbx p1⟩);have hr102 : Below Zq1.heap.size Zq1 Zq1.drew:=Zr (Below.refl _ _) 1;refine wp_heldS [] hmx hSv102 hr102 (fun hxs102=>?_);refine Zt2 6 [0,1,2,3,4,5] rfl (by kernel_rfl) (hSv102.out _ hr102) ?_
      iterate 6 (refine tkA ?_;try simp only [Act.put,putL_a,putL_z,putL_s,putG_a,putG_s,putG_z])
      refine tk0 ?_;refine Za0 ([] : List (Nat × Nat)) [(6,77),(7,70),(10,15)] (fun i=>match i with | 7=>[8,9] | _=>[]) [(6,77),(7,70),(8,78),(9,79),(10,15)] (Zl Zq1.heap.size (T1 (zs[j]?.getD 0)) (zs[j]?.getD 0) (0) 6 7 8 1000 9 10 1001) 2 (by kernel_rfl) (fun _ _ _ _ _ hb h=>Zba (fun _ _ _=>T1.stays) hb h) (fun wx h=>hSv102.out _ (hr102.trans (h.mono hr102.size))) ?hop102 ?hfin102
      case hop102 =>
       intro p hp;simp only [List.mem_cons,List.not_mem_nil,or_false] at hp;simp only [List.map_cons,List.map_nil,Zae,Act.put,putL_a,putL_z,putL_s]
       rcases hp with rfl | rfl | rfl
       ·intro ν wx hb hP
        have hbx:=hr102.trans (hb.mono hr102.size);refine Zo (i:=6) rfl (fun K hK=>?_);go_simp;refine (Zri q0n na q0A A1 q0k q0c n1 c1 (zs[j]?.getD 0) wx (q0f.below hbx) (hNum.below hbx)).mono ?_;rintro e w5 ⟨hb5,na5,A5,k5,c5,rfl,hf5⟩;exact hK.out _ _ ⟨_,rfl,(by simp only [Zl];exact ⟨_,_,_,_,rfl,hf5⟩),hb5,trivial,fun h=>by simp at h⟩
       ·intro ν wx hb hP
        have h0:=hP (6,77) (by simp) (by kernel_rfl);simp only [Zl] at h0;obtain ⟨na5,A5,k5,c5,hν,hf5⟩:=h0;rw [hν];refine Zo (i:=7) rfl (fun K hK=>?_);go_simp;refine hK.out _ _ ⟨_,rfl,(by simp only [Zl];exact ⟨_,_,_,_,rfl,hf5⟩),Below.refl _ _,?_,fun h=>by simp at h⟩;exact ⟨_,.agg #[.bool na5,.slice A5 k5 c5],rfl,Or.inl ⟨by kernel_rfl,fun W2 _=>by go_simp⟩,(by simp only [Zl];exact ⟨_,_,_,_,rfl,hf5⟩),⟨_,.int .i64 0,rfl,Or.inl ⟨by kernel_rfl,fun W2 _=>by go_simp⟩,by simp [Zl],trivial⟩⟩
       ·intro ν wx hb hP
        refine Zo (i:=10) rfl (fun K hK=>?_);go_simp;exact hK.out _ _ ⟨_,rfl,(by simp only [Zl];exact ⟨_,rfl,hb.size,Blk.new _ _ _⟩),(Below.refl _ _).alloc (Nat.le_refl _) _,trivial,(fun h=>by simp at h)⟩
      case hfin102 =>
       intro ν wx hb hP hNE;have h0:=hP (6,77) (by simp);have h1:=hP (7,70) (by simp);have h3:=hP (9,79) (by simp);have hx0:=hP (8,78) (by simp);have ha0:=hP (10,15) (by simp);simp only [Zl] at h0 h1 hx0 ha0;obtain ⟨a0,a1,a2,a3,h0,-⟩:=h0;obtain ⟨e0,e1,e2,e3,h1,-⟩:=h1;obtain ⟨e0n,e0A,e0k,e0c,hx0,e0f⟩:=hx0;obtain ⟨ge0,ha0,kv0,qv0⟩:=ha0;simp only [List.map_cons,List.map_nil,Zae,Act.put,putL_a,putL_z,putL_s];rw [h0,h1,hx0,(show ν 79 = Value.int .i64 0 by simpa [Zl] using h3),ha0];clear h0 h1 h3 hx0 ha0 hP ν hNE;have hbx:=hr102.trans (hb.mono hr102.size);obtain ⟨f00,f10,f20,f30⟩:=qv0.two;obtain ⟨Ze0,hZ0,hbZe0,qZ0,kZ0⟩:=Zu e0n e0A e0k e0c hbx kv0 qv0
       refine wpAnyL_o 11 fun K hK=>?_
       go_simp;(try rw [hZ0]);refine hK.out _ _ (fun _=>hSv102.out _ hbZe0) ?_;clear hK K hZ0 f00 f10 f20 f30
       try simp only [Act.put,putL_a,putL_z,putL_s]
       refine Zt1 1 [12] rfl (by kernel_rfl) (hSv102.out _ hbZe0) ?_
       (refine tkA ?_;try simp only [Act.put,putL_a,putL_z,putL_s,putG_a,putG_s,putG_z])
       refine tk0 ?_;refine wpAnyL_fin ?_;have e0b:=Zb qZ0;replace e0f:=Zb (kZ0.1 _ _ _ _ _ e0f);have ekv:=kv0;clear kZ0 qZ0 kv0 hbx hb hr102 hSv102 hxs102;replace qd:=Zb (Zd hbZe0 qd.out);replace hWd:=Zb (hWd.out.below hbZe0);replace hown:=hown.out.kept hbZe0;replace hB:=hB.trans (hbZe0.mono hB.size);obtain ⟨u2,u3,-,-⟩:=e0b.out.two;have hsB:=hB.size;have hgDl:=qd.out.lt;clear u0 u1 p0 p1 hNum hbZe0 q0b q0f;go_wp2_with (at_builtin;refine Zaa _ rfl (.tmp 80) (.tmp 82) 22 rfl (gD + 1) 26 iw Try.underlying22 hi hz0 hz1 hz2 _ _ rfl (by exact hown.alloc _) _ _ 1 1 [⟨e0n,e0A,e0k,e0c,digits (zs[j]?.getD 0).natAbs⟩] rfl (Zdu _ _ _ _ _ _ _) rfl (List.forall_mem_singleton.2 ⟨e0f.2.2.alloc _,e0f.ok⟩) (by rw [List.length_take];omega) (by simp;omega) ?_;intro v7 w7 hown7 hg7 hk7);have hB7 : Below (gD + 1) Ze0 w7:=((Below.refl (gD + 1) Ze0).alloc (by omega) _).grown hg7 (by simp;omega) hown.row_ge;have qd7:=(hB7.block gD (Nat.lt_succ_self _)).trans qd.out;have hWd7 : Wd w7 nb B m d 1:=⟨hWd.out.1,hWd.out.2.1,hk7 _ _ _ _ (hWd.out.2.2.alloc _)⟩;have hB8:=hB.trans (hB7.mono (by have:=hg1.out;omega));have hown8:=hown7.snoc e0f;rw [hst.out] at hown8
       go_roundg (i - (j + 1))
       case measure=>omega
       case rel=>exact ⟨j + 1,by omega,by go_num,hown8,qd7,hWd7,hB8⟩
  | succ gk' =>
   obtain rfl : gk' = n - (i + 1):=by omega
   have hin : i < n:=by omega
   have tlt : decide ((i : Int) < (n : Int)) = true:=by simp;omega
   have bI : (i : Int) < (n : Int):=by omega
   obtain ⟨b,o,na,A1,n1,c1,nB,B2,m2,d2,rfl,p0,p1,p2,p3,hNum,hDen⟩:=Zs6 h.out hin;replace p2:=Za hB p2;replace p3:=Za hB p3;replace hDen:=hDen.below hB;obtain ⟨x0,x1,y0,y1⟩:=qd.two;clear p0 p1 hNum;go_wp2_with fail;have hSv103 : Hid (∀ wx,Below wr.heap.size wr wx -> wx.cell? ⟨gD,0,none⟩ = some (.bool nb) /\ wx.cell? ⟨gD,1,none⟩ = some (.slice B m d) /\ wx.cell? ⟨b,o + i * 4 + 2,none⟩ = some (.bool nB) /\ wx.cell? ⟨b,o + i * 4 + 3,none⟩ = some (.slice B2 m2 d2)):=Zb (fun wx hbx=>⟨Za hbx x0,Za hbx x1,Za hbx p2,Za hbx p3⟩);have hr103 : Below wr.heap.size wr wr.drew:=Zr (Below.refl _ _) 1;refine wp_heldS [] hmx hSv103 hr103 (fun hxs103=>?_);refine Zt2 6 [0,1,2,3,4,5] rfl (by kernel_rfl) (hSv103.out _ hr103) ?_
   iterate 6 (refine tkA ?_;try simp only [Act.put,putL_a,putL_z,putL_s,putG_a,putG_s,putG_z])
   refine tk0 ?_;refine Za0 ([] : List (Nat × Nat)) [(6,33),(7,26),(10,5)] (fun i=>match i with | 7=>[8,9] | _=>[]) [(6,33),(7,26),(8,34),(9,35),(10,5)] (Zl wr.heap.size (T1 (1)) (1) (0) 6 7 8 1000 9 10 1001) 2 (by kernel_rfl) (fun _ _ _ _ _ hb h=>Zba (fun _ _ _=>T1.stays) hb h) (fun wx h=>hSv103.out _ (hr103.trans (h.mono hr103.size))) ?hop103 ?hfin103
   case hop103 =>
    intro p hp;simp only [List.mem_cons,List.not_mem_nil,or_false] at hp;simp only [List.map_cons,List.map_nil,Zae,Act.put,putL_a,putL_z,putL_s]
    rcases hp with rfl | rfl | rfl
    ·intro ν wx hb hP
     have hbx:=hr103.trans (hb.mono hr103.size);refine Zo (i:=6) rfl (fun K hK=>?_);go_simp;refine (gcd11 nb nB B B2 m d m2 d2 wx (hWd.below hbx) (hDen.below hbx)).mono ?_;rintro e w5 ⟨hb5,na5,A5,k5,c5,rfl,hf5⟩;exact hK.out _ _ ⟨_,rfl,(by simp only [Zl];exact ⟨_,_,_,_,rfl,hf5⟩),hb5,trivial,fun h=>by simp at h⟩
    ·intro ν wx hb hP
     have h0:=hP (6,33) (by simp) (by kernel_rfl);simp only [Zl] at h0;obtain ⟨na5,A5,k5,c5,hν,hf5⟩:=h0;rw [hν];refine Zo (i:=7) rfl (fun K hK=>?_);go_simp;refine hK.out _ _ ⟨_,rfl,(by simp only [Zl];exact ⟨_,_,_,_,rfl,hf5⟩),Below.refl _ _,?_,fun h=>by simp at h⟩;exact ⟨_,.agg #[.bool na5,.slice A5 k5 c5],rfl,Or.inl ⟨by kernel_rfl,fun W2 _=>by go_simp⟩,(by simp only [Zl];exact ⟨_,_,_,_,rfl,hf5⟩),⟨_,.int .i64 0,rfl,Or.inl ⟨by kernel_rfl,fun W2 _=>by go_simp⟩,by simp [Zl],trivial⟩⟩
    ·intro ν wx hb hP
     refine Zo (i:=10) rfl (fun K hK=>?_);go_simp;exact hK.out _ _ ⟨_,rfl,(by simp only [Zl];exact ⟨_,rfl,hb.size,Blk.new _ _ _⟩),(Below.refl _ _).alloc (Nat.le_refl _) _,trivial,(fun h=>by simp at h)⟩
   case hfin103 =>
    intro ν wx hb hP hNE;have h0:=hP (6,33) (by simp);have h1:=hP (7,26) (by simp);have h3:=hP (9,35) (by simp);have hx0:=hP (8,34) (by simp);have ha0:=hP (10,5) (by simp);simp only [Zl] at h0 h1 hx0 ha0;obtain ⟨a0,a1,a2,a3,h0,-⟩:=h0;obtain ⟨e0,e1,e2,e3,h1,-⟩:=h1;obtain ⟨g0n,g0A,g0k,g0c,hx0,g0f⟩:=hx0;obtain ⟨gg0,ha0,kv0,qv0⟩:=ha0;simp only [List.map_cons,List.map_nil,Zae,Act.put,putL_a,putL_z,putL_s];rw [h0,h1,hx0,(show ν 35 = Value.int .i64 0 by simpa [Zl] using h3),ha0];clear h0 h1 h3 hx0 ha0 hP ν hNE;have hbx:=hr103.trans (hb.mono hr103.size);obtain ⟨f00,f10,f20,f30⟩:=qv0.two;obtain ⟨Zg0,hZ0,hbZg0,qZ0,kZ0⟩:=Zu g0n g0A g0k g0c hbx kv0 qv0
    refine wpAnyL_o 11 fun K hK=>?_
    go_simp;(try rw [hZ0]);refine hK.out _ _ (fun _=>hSv103.out _ hbZg0) ?_;clear hK K hZ0 f00 f10 f20 f30
    try simp only [Act.put,putL_a,putL_z,putL_s]
    refine Zt1 1 [12] rfl (by kernel_rfl) (hSv103.out _ hbZg0) ?_
    (refine tkA ?_;try simp only [Act.put,putL_a,putL_z,putL_s,putG_a,putG_s,putG_z])
    refine tk0 ?_;refine wpAnyL_fin ?_;have g0b:=Zb qZ0;replace g0f:=Zb (kZ0.1 _ _ _ _ _ g0f);have gkv:=kv0;clear kZ0 qZ0 kv0 hbx hb hr103 hSv103 hxs103;have x0':=Za hbZg0 x0;have x1':=Za hbZg0 x1;have p2':=Za hbZg0 p2;have p3':=Za hbZg0 p3;have qd6:=Zb (Zd hbZg0 qd);have hWd6:=Zb (hWd.below hbZg0);have hDen6:=Zb (hDen.below hbZg0);have hB6:=Zb (hB.trans (hbZg0.mono hB.size));obtain ⟨v0,v1,-,-⟩:=g0b.out.two;clear x0 x1 p2 p3 y0 y1 qd hWd hDen hB hbZg0 gkv;go_wp2_with fail;have hSv104 : Hid (∀ wx,Below Zg0.heap.size Zg0 wx -> wx.cell? ⟨gg0,0,none⟩ = some (.bool g0n) /\ wx.cell? ⟨gg0,1,none⟩ = some (.slice g0A g0k g0c) /\ wx.cell? ⟨b,o + i * 4 + 2,none⟩ = some (.bool nB) /\ wx.cell? ⟨b,o + i * 4 + 3,none⟩ = some (.slice B2 m2 d2)):=Zb (fun wx hbx=>⟨Za hbx v0,Za hbx v1,Za hbx p2',Za hbx p3'⟩);have hr104 : Below Zg0.heap.size Zg0 Zg0.drew:=Zr (Below.refl _ _) 1;refine wp_heldS [] hmx hSv104 hr104 (fun hxs104=>?_);refine Zt2 6 [0,1,2,3,4,5] rfl (by kernel_rfl) (hSv104.out _ hr104) ?_
    iterate 6 (refine tkA ?_;try simp only [Act.put,putL_a,putL_z,putL_s,putG_a,putG_s,putG_z])
    refine tk0 ?_;refine Za0 [(11,7),(12,8)] [(6,43),(7,36),(11,7),(12,8)] (fun i=>match i with | 7=>[8,9,10] | _=>[]) [(6,43),(7,36),(8,44),(9,45),(10,46),(11,7),(12,8)] (Zl Zg0.heap.size (T2 (1) (0)) (1) (0) 6 7 8 9 10 11 12) 3 (by kernel_rfl) (fun _ _ _ _ _ hb h=>Zba (fun _ _ _=>T2.stays) hb h) (fun wx h=>hSv104.out _ (hr104.trans (h.mono hr104.size))) ?hop104 ?hfin104
    case hop104 =>
     intro p hp;simp only [List.mem_cons,List.not_mem_nil,or_false] at hp;simp only [List.map_cons,List.map_nil,Zae,Act.put,putL_a,putL_z,putL_s]
     rcases hp with rfl | rfl | rfl | rfl
     ·intro ν wx hb hP
      have hbx:=hr104.trans (hb.mono hr104.size);refine Zo (i:=6) rfl (fun K hK=>?_);go_simp;refine (Zpr nB g0n B2 g0A m2 d2 g0k g0c wx (hDen6.out.below hbx) (g0f.below hbx)).mono ?_;rintro e w5 ⟨hb5,na5,A5,k5,c5,nb5,B5,m5,d5,rfl,hf5,hg5⟩;exact hK.out _ _ ⟨_,rfl,(by simp only [Zl];exact ⟨_,_,_,_,_,_,_,_,rfl,hf5,hg5⟩),hb5,trivial,fun h=>by simp at h⟩
     ·intro ν wx hb hP
      have h0:=hP (6,43) (by simp) (by kernel_rfl);simp only [Zl] at h0;obtain ⟨na5,A5,k5,c5,nb5,B5,m5,d5,hν,hf5,hg5⟩:=h0;rw [hν];refine Zo (i:=7) rfl (fun K hK=>?_);go_simp;refine hK.out _ _ ⟨_,rfl,(by simp only [Zl];exact ⟨_,_,_,_,_,_,_,_,rfl,hf5,hg5⟩),Below.refl _ _,?_,fun h=>by simp at h⟩;exact ⟨_,.agg #[.bool na5,.slice A5 k5 c5],rfl,Or.inl ⟨by kernel_rfl,fun W2 _=>by go_simp⟩,(by simp only [Zl];exact ⟨_,_,_,_,rfl,hf5⟩),⟨_,.agg #[.bool nb5,.slice B5 m5 d5],rfl,Or.inl ⟨by kernel_rfl,fun W2 _=>by go_simp⟩,(by simp only [Zl];exact ⟨_,_,_,_,rfl,hg5⟩),⟨_,.int .i64 0,rfl,Or.inl ⟨by kernel_rfl,fun W2 _=>by go_simp⟩,by simp [Zl],trivial⟩⟩⟩
     ·intro ν wx hb hP
      refine Zo (i:=11) rfl (fun K hK=>?_);go_simp
      exact hK.out _ _ ⟨_,rfl,(by simp only [Zl];exact ⟨_,rfl,hb.size,Blk.new _ _ _⟩),(Below.refl _ _).alloc (Nat.le_refl _) _,trivial,(fun _ q hq u hu=>by
       simp only [List.mem_cons,List.not_mem_nil,or_false] at hq
       rcases hq with rfl | rfl <;> (simp only [Zl] at hu;exact NewW.ne hu))⟩
     ·intro ν wx hb hP
      refine Zo (i:=12) rfl (fun K hK=>?_);go_simp
      exact hK.out _ _ ⟨_,rfl,(by simp only [Zl];exact ⟨_,rfl,hb.size,Blk.new _ _ _⟩),(Below.refl _ _).alloc (Nat.le_refl _) _,trivial,(fun _ q hq u hu=>by
       simp only [List.mem_cons,List.not_mem_nil,or_false] at hq
       rcases hq with rfl | rfl <;> (simp only [Zl] at hu;exact NewW.ne hu))⟩
    case hfin104 =>
     intro ν wx hb hP hNE;have h0:=hP (6,43) (by simp);have h1:=hP (7,36) (by simp);have h3:=hP (10,46) (by simp);have hx0:=hP (8,44) (by simp);have hx1:=hP (9,45) (by simp);have ha0:=hP (11,7) (by simp);have ha1:=hP (12,8) (by simp);simp only [Zl] at h0 h1 hx0 ha0 hx1 ha1;obtain ⟨a0,a1,a2,a3,a4,a5,a6,a7,h0,-,-⟩:=h0;obtain ⟨e0,e1,e2,e3,e4,e5,e6,e7,h1,-,-⟩:=h1;obtain ⟨q0n,q0A,q0k,q0c,hx0,q0f⟩:=hx0;obtain ⟨gq0,ha0,kv0,qv0⟩:=ha0;obtain ⟨q1n,q1A,q1k,q1c,hx1,q1f⟩:=hx1;obtain ⟨gq1,ha1,kv1,qv1⟩:=ha1
     have hgne : gq0 ≠ gq1:=fun h=>by
      refine hNE (11,7) (by simp) (12,8) (by simp) (by simp) ?_;rw [ha0,ha1,h]
     simp only [List.map_cons,List.map_nil,Zae,Act.put,putL_a,putL_z,putL_s];rw [h0,h1,hx0,hx1,(show ν 46 = Value.int .i64 0 by simpa [Zl] using h3),ha0,ha1];clear h0 h1 h3 hx0 ha0 hx1 ha1 hP ν hNE;have hbx:=hr104.trans (hb.mono hr104.size);obtain ⟨f00,f10,f20,f30⟩:=qv0.two;obtain ⟨Zq0,hZ0,hbZq0,qZ0,kZ0⟩:=Zu q0n q0A q0k q0c hbx kv0 qv0;replace qv1:=kZ0.2.1 _ _ _ hgne.symm qv1
     refine wpAnyL_o 13 fun K hK=>?_
     go_simp;(try rw [hZ0]);refine hK.out _ _ (fun _=>hSv104.out _ hbZq0) ?_;clear hK K hZ0 f00 f10 f20 f30
     try simp only [Act.put,putL_a,putL_z,putL_s]
     obtain ⟨f01,f11,f21,f31⟩:=qv1.two;obtain ⟨Zq1,hZ1,hbZq1,qZ1,kZ1⟩:=Zu q1n q1A q1k q1c hbZq0 kv1 qv1
     refine wpAnyL_o 14 fun K hK=>?_
     go_simp;(try rw [hZ1]);refine hK.out _ _ (fun _=>hSv104.out _ hbZq1) ?_;clear hK K hZ1 f01 f11 f21 f31
     try simp only [Act.put,putL_a,putL_z,putL_s]
     refine Zt1 1 [15] rfl (by kernel_rfl) (hSv104.out _ hbZq1) ?_
     (refine tkA ?_;try simp only [Act.put,putL_a,putL_z,putL_s,putG_a,putG_s,putG_z])
     refine tk0 ?_;refine wpAnyL_fin ?_;have q0b:=Zb (kZ1.2.1 _ _ _ hgne qZ0);have q1b:=Zb qZ1;replace q0f:=Zb (kZ1.1 _ _ _ _ _ (kZ0.1 _ _ _ _ _ q0f));have qkv:=kv0;clear kZ0 kZ1 qZ0 qZ1 kv0 kv1 hbx hb hr104 hSv104 hxs104 hbZq0;have qd7:=Zd hbZq1 qd6.out;obtain ⟨x0,x1,y0,y1⟩:=qd7.two;obtain ⟨u0,u1,-,-⟩:=q0b.out.two;have hWd7:=Zb (hWd6.out.below hbZq1);have hB7:=Zb (hB6.out.trans (hbZq1.mono hB6.out.size));replace qd7:=Zb qd7;clear x0' x1' p2' p3' qd6 hWd6 hDen6 hB6 hbZq1 v0 v1 g0b g0f q1b q1f;go_wp2_with fail;refine (Zmk nb q0n B q0A m d q0k q0c 1 1 1 rfl (by decide) Zq1 hWd7.out q0f).mono ?_;rintro e w7 ⟨hb7,n7,A7,k7,c7,rfl,hW7⟩;have qd8:=Zd hb7 qd7.out;obtain ⟨y0',y1',z0,z1⟩:=qd8.two;obtain ⟨X8,hX8,hB8,q8,k8⟩:=Zu n7 A7 k7 c7 (hB7.out.trans (hb7.mono hB7.out.size)) hg1.out qd8;have hW8:=Zb (k8.1 _ _ _ _ _ hW7);replace q8:=Zb q8;replace hB8:=Zb hB8;clear hb7 qd8 hB7 hW7 k8 u0 u1 q0b q0f qd7 hWd7 x0 x1 y0 y1;go_wp2_with fail;(try rw [hX8])
     go_roundg (n - (i + 1))
     case measure=>omega
     case rel=>exact ⟨i + 1,n7,A7,k7,c7,by omega,by go_num,q8.out,hW8.out,hB8.out⟩
theorem Zia : Zbl [] = []:=by decide +kernel
theorem Bnd.sm {p : List Int} (h : Bnd 11 p) : ∀ t,Sm (co (rl p) t):=fun t=>by
 rw [Zb9];exact Zmp (h t) (by decide)
theorem Zrz (A : Option Addr) (n c : Nat) (ps : List WE) (w : World) (hp : WL w A n c ps) (kp : pOk ps = true) (ep : Z2 (ps.map WE.num) = true) (hb : Bnd 8 (ps.map WE.num)) :
    Calls Try.prog 21 #[.slice A n c] w (Zi8 w (Zbl (ps.map WE.num))):=by
 have h9:=Zck kp;have hlen:=hp.len;have hnc:=hp.2.1;have hcm:=hp.2.2.1;unfold maxLen at hcm
 by_cases hn0 : n = 0
 ·have hps : ps = []:=List.eq_nil_of_length_eq_zero (by omega)
  have hpn : Hid (Zbl (ps.map WE.num) = []):=Zb (by rw [hps];exact Zia)
  have t0 : ((n : Int) == 0) = true:=by simpa using hn0
  have t1 : decide (n = 0) = true:=decide_eq_true hn0
  have t2 : (n == 0) = true:=by simpa using hn0
  replace hn0:=Zb hn0;replace hps:=Zb hps;replace hp:=Zb hp;go_enter Try.func21,Try.ntmps21;go_wp2_with fail;go_ret;exact ⟨_,_,_,rfl,by rw [hpn.out];exact PolyL.nil _ _ _ (Nat.zero_le _),Below.refl _ _⟩
 have t0 : ((n : Int) == 0) = false:=by simpa using hn0
 have t1 : decide (n = 0) = false:=decide_eq_false hn0
 have t2 : (n == 0) = false:=by simpa using hn0
 have hd0:=fun W (h : WL W A n c ps)=>Zmw A n c ps W h kp
 have hP : Hid (∀ W,Below w.heap.size w W -> PolyL W A n c (ps.map WE.num)):=Zb (fun W hb=>⟨ps,hp.below hb,rfl,Zms kp⟩);obtain ⟨xs,hxs⟩ : ∃ xs,ps.map WE.num = xs:=⟨_,rfl⟩
 have hxl : xs.length = n:=by rw [<- hxs,List.length_map];exact hlen
 rw [hxs] at ep hb hP ⊢;have tp : Top xs:=(Za5 ep).resolve_left (fun h=>hn0 (by rw [<- hxl,h];rfl))
 have h9x : xs.length <= 9:=by rw [hxl,<- hlen];exact h9
 obtain ⟨-,-,hokR,hcR,hg,-,hgb,hgl,-,-⟩:=Zgt tp hb h9x;obtain ⟨zs,hq,tz,hzf,-,hzl,hov,hoz⟩:=Zof tp hb h9x;have ed:=Zej tp;have hdl : Hid ((Zaj xs).length <= 100):=Zb (by rw [Zd2];omega);obtain ⟨g,hgg⟩ : ∃ g,Za1 xs (Zaj xs) = g:=⟨_,rfl⟩;rw [hgg] at hg hgb hgl hq hzl hov hoz hcR;have hsm:=Zb hgb.sm
 have hT : Hid (∀ W,PolyL W A n c xs -> ∀ B m d,PolyL W B m d (Zaj xs) -> Calls Try.prog 16 #[.slice A n c,.slice B m d] W (Zi8 W g)):=Zb (fun W h1 B m d h2=>by
  rw [<- hcR]
  exact Zkb A B n c m d xs (Zaj xs) W h1 h2 (by omega) (by rw [<- h2.len];exact hdl.out) ep ed hokR)
 have hO : Hid (∀ W,PolyL W A n c xs -> ∀ B m d,PolyL W B m d g -> Calls Try.prog 41 #[.slice A n c,.slice B m d] W (fun e w'=>Below W.heap.size W w' /\ ∃ O nO ko B' d',e = .returned (.tuple #[.slice O nO ko,.slice B' 0 d']) /\ FL w' O nO ko (rl zs) /\ nO <= 100)):=Zb (fun W h1 B m d h2=>by
  have e1:=h2.len
  have e2 : n + 1 - m = xs.length + 1 - g.length:=by omega
  refine (sOver_q A B n c m d xs g W h1 h2 hg.top hg.2.2 (by omega) (by omega) (by rw [e2];exact hov) hsm.out (by rw [e2,hoz,e1])).mono ?_;rintro e w' ⟨hb1,O,ko,B',d',rfl,hF⟩;rw [e2] at hF ⊢;rw [hq] at hF
  exact ⟨hb1,_,_,_,_,_,rfl,hF,by omega⟩)
 have hz2:=Zgp (Zb1 tz)
 have hC : Hid (∀ W O nO ko,FL W O nO ko (rl zs) -> nO <= 100 -> Calls Try.prog 43 #[.slice O nO ko] W (Zi8 W (Zdq zs))):=Zb (fun W O nO ko h1 h2=>by
  have:=Zqr O nO ko zs W h1 h2
  rwa [Zib tz] at this)
 have hsl : Hid ((Zdq zs).length <= 900):=Zb (by rw [hz2.2.2.1];omega);have hss : Hid (∀ m,(Zdq zs).length = m -> m = 0 \/ signP (Zdq zs) ≠ 0):=Zb (fun m hm=>by rw [<- hm];exact Zfz hz2.2.1);have hres : Hid (Zh (Zdq zs) = Zbl xs):=Zb (hz2.1.trans hzf);replace hd0:=Zb hd0;replace hn0:=Zb hn0;clear hq hzl hov hoz hcR hg hgb hgl hsm hokR ed ep hb hz2 tz tp hzf h9x;replace hgg:=Zb hgg;replace hp:=Zb hp;replace hxl:=Zb hxl;go_enter Try.func21,Try.ntmps21;go_wp2_with fail;refine (hd0.out w hp.out).mono ?_;rw [hxs];replace hxs:=Zb hxs;rintro e w1 ⟨A1,n1,c1,rfl,hP1,hb1⟩;go_wp2_with fail;refine (hT.out w1 (hP.out w1 hb1) A1 n1 c1 hP1).mono ?_;rintro e w2 ⟨A2,n2,c2,rfl,hP2,hb2⟩;have hB2:=hb1.trans (hb2.mono hb1.size);clear hP1 hT hd0;go_wp2_with fail;refine (hO.out w2 (hP.out w2 hB2) A2 n2 c2 hP2).mono ?_;rintro e w3 ⟨hb3,O,nO,ko,B3,d3,rfl,hF,hnO⟩;have hB3:=hB2.trans (hb3.mono hB2.size);clear hP2 hO;go_wp2_with fail;refine (hC.out w3 O nO ko hF hnO).mono ?_;rintro e w4 ⟨A4,n4,c4,rfl,hP4,hb4⟩;have hB4:=hB3.trans (hb4.mono hB3.size);clear hF hC;go_wp2_with fail;refine (Zdy A4 n4 c4 _ w4 hP4 (by rw [<- hP4.len];exact hsl.out) (hss.out _ hP4.len)).mono ?_;rintro e w5 ⟨v5,rfl,hv5,hb5⟩;obtain ⟨A6,c6,hv6,hP6⟩:=hv5.poly;subst hv6;have hB5:=hB4.trans (hb5.mono hB4.size);replace hP6:=Zb hP6;clear hv5 hP4;go_wp2_with fail;go_ret;exact ⟨_,_,_,rfl,by rw [<- hres.out];exact hP6.out,hB5⟩
theorem Zsk (A : Option Addr) (n c : Nat) (ps : List WE) (w : World) (hp : WL w A n c ps) (kp : pOk ps = true) (ep : Z2 (ps.map WE.num) = true) (hb : Bnd 8 (ps.map WE.num)) :
    Calls Try.prog 9 #[.slice A n c] w (ResPoly w (Zbl (ps.map WE.num))):=by
 have hT:=fun W hp=>Zb (Zrz A n c ps W hp kp ep hb)
 have hle : Hid ((Zbl (ps.map WE.num)).length <= 900):=Zb (by
  rcases Za5 ep with h | h
  ·rw [h,Zia];exact Nat.zero_le _
  ·obtain ⟨zs,-,-,h3,-,h4,-⟩:=Zof h hb (by rw [List.length_map];exact Zck kp)
   rw [<- h3,Zd9];have:=Zck kp;rw [List.length_map] at h4
   omega)
 replace kp : Hid (Zbg (pOk ps) = 0):=by unfold Hid;rw [kp];rfl
 go_enter Try.func9,Try.ntmps9;go_wp2_with fail;refine (Zb2 _ _ _ _ _ hp).mono ?_;rintro e w1 ⟨he1,hb1⟩;rw [kp.out] at he1;subst he1;go_wp2_with fail;refine (hT w1 (hp.below hb1)).out.mono ?_;rintro e w3 ⟨A3,n3,c3,rfl,hP3,hb3⟩;have hB3:=hb1.trans (hb3.mono hb1.size);clear hT;go_wp2_with fail;refine (Zld _ _ _ _ _ hP3 (by rw [<- hP3.len];exact hle.out)).mono ?_;rintro e w4 ⟨hb4,A4,n4,c4,code4,rfl,hR4⟩;replace hR4:=Zb hR4;go_wp2_with fail;go_returns;exact ⟨hB3.trans (hb4.mono hB3.size),A4,n4,c4,code4,rfl,hR4.out⟩
theorem Zq7 (A : Option Addr) (n c : Nat) (ps : List WE) (w : World) (hp : WL w A n c ps) (kp : pOk ps = false) :
    Calls Try.prog 9 #[.slice A n c] w (BadPoly w):=by
 replace kp : Hid (Zbg (pOk ps) = 8):=by unfold Hid;rw [kp];rfl
 go_enter Try.func9,Try.ntmps9;go_wp2_with fail;refine (Zb2 _ _ _ _ _ hp).mono ?_;rintro e w1 ⟨he1,hb1⟩;rw [kp.out] at he1;subst he1;go_wp2_with fail;refine (Zb2 _ _ _ _ _ (hp.below hb1)).mono ?_;rintro e w2 ⟨he2,hb2⟩;rw [kp.out] at he2;subst he2;go_wp2_with fail;go_returns;exact ⟨hb1.trans (hb2.mono hb1.size),none,rfl⟩
theorem Zrh (A : Option Addr) (n c : Nat) (ps : List WE) (w : World) (hp : WL w A n c ps) (kp : pOk ps = false) :
    Calls Try.prog 8 #[.slice A n c] w (BadPoly w):=by
 replace kp : Hid (Zbg (pOk ps) = 8):=by unfold Hid;rw [kp];rfl
 go_enter Try.func8,Try.ntmps8;go_wp2_with fail;refine (Zbq _ _ _ _ _ hp).mono ?_;rintro e w1 ⟨he1,hb1⟩;rw [kp.out] at he1;subst he1;go_wp2_with fail;go_returns;exact ⟨hb1,none,rfl⟩
theorem Zqx (A : Option Addr) (n c : Nat) (ps : List WE) (w : World) (hp : WL w A n c ps) (kp : pOk ps = true) (hn0 : n = 0) :
    Calls Try.prog 8 #[.slice A n c] w fun e w'=>Below w.heap.size w w' /\ e = .returned (.tuple #[.slice none 0 0,.int .i64 0]):=by
 replace kp : Hid (Zbg (pOk ps) = 0):=by unfold Hid;rw [kp];rfl
 have t0 : ((n : Int) == 0) = true:=by simpa using hn0
 have t1 : decide (n = 0) = true:=decide_eq_true hn0
 have t2 : (n == 0) = true:=by simpa using hn0
 replace hn0:=Zb hn0;go_enter Try.func8,Try.ntmps8;go_wp2_with fail;refine (Zbq _ _ _ _ _ hp).mono ?_;rintro e w1 ⟨he1,hb1⟩;rw [kp.out] at he1;subst he1;go_wp2_with fail;go_returns;exact ⟨hb1,rfl⟩
theorem Zsf (A B : Option Addr) (n c m d : Nat) (ps qs : List WE) (w : World) (hp : WL w A n c ps) (hq : WL w B m d qs) (k : (pOk ps && pOk qs) = false) :
    Calls Try.prog 6 #[.slice A n c,.slice B m d] w (BadPoly w):=by
 have i0 : ∀ W,(Instr.index 36 (.agg #[.slice A n c,.slice B m d]) (.int .i64 0)).run Try.prog W = .ok (.slice A n c) W:=fun _=>by kernel_rfl
 have i1 : ∀ W,(Instr.index 36 (.agg #[.slice A n c,.slice B m d]) (.int .i64 1)).run Try.prog W = .ok (.slice B m d) W:=fun _=>by kernel_rfl
 cases kp : pOk ps with
 | false =>
  replace kp : Hid (Zbg (pOk ps) = 8):=by unfold Hid;rw [kp];rfl
  clear k;go_enter Try.func6,Try.ntmps6;go_wp2_with fail;refine wp_loop_rounds 3 ?_;rw [rounds_succ];go_wp2_with fail;refine (Zbq _ _ _ _ _ hp).mono ?_;rintro e w1 ⟨he1,hb1⟩;rw [kp.out] at he1;subst he1;go_wp2_with fail;go_returns;exact ⟨hb1,none,rfl⟩
 | true =>
  rw [kp,Bool.true_and] at k
  replace kp : Hid (Zbg (pOk ps) = 0):=by unfold Hid;rw [kp];rfl
  replace k : Hid (Zbg (pOk qs) = 8):=by unfold Hid;rw [k];rfl
  go_enter Try.func6,Try.ntmps6;go_wp2_with fail;refine wp_loop_rounds 3 ?_;rw [rounds_succ];go_wp2_with fail;refine (Zbq _ _ _ _ _ hp).mono ?_;rintro e w1 ⟨he1,hb1⟩;rw [kp.out] at he1;subst he1;go_wp2_with fail;rw [rounds_succ];go_wp2_with fail;refine (Zbq _ _ _ _ _ (hq.below hb1)).mono ?_;rintro e w2 ⟨he2,hb2⟩;rw [k.out] at he2;subst he2;go_wp2_with fail;go_returns;exact ⟨hb1.trans (hb2.mono hb1.size),none,rfl⟩
theorem noLimb2 {x y : Value} (hx : ∀ k,x ≠ limb k) (hy : ∀ k,y ≠ limb k) : NoLimb #[x,y]:=fun i k=>by
 match i with
 | 0=>simpa using hx k
 | 1=>simpa using hy k
 | i + 2=>simp
def FewE (es : List WE) : Prop:=es.length <= 12 /\ ∀ (i : Nat) (e : WE),es[i]? = some e -> e.n <= 8 \/ (40 < e.n /\ e.n <= 50)
def GreatR (es : List WE) (w : World) (e : Ending) (w' : World) : Prop:=∃ b : Bool,e = .returned (.bool b) /\ Below w.heap.size w w' /\ (b = false -> FewE es)
def TwinE (es fs : List WE) : Prop:=fs.length = es.length /\ ∀ (i : Nat) (e f : WE),es[i]? = some e -> fs[i]? = some f -> f.neg = e.neg /\ f.l = e.l /\ f.n = e.n
theorem Zj9 (A : Option Addr) (n c : Nat) (es : List WE) (w : World) (h : WL w A n c es) :
    Calls Try.prog 4 #[.slice A n c] w (GreatR es w):=by
 have hnc:=h.2.1;have hcm:=h.2.2.1;have hlen:=Zb h.len;unfold maxLen at hcm
 by_cases h12 : 12 < n
 ·have d : decide ((12 : Int) < (n : Int)) = true:=by simp;omega
  go_enter Try.func4,Try.ntmps4
  go_wp2
  go_ret;exact ⟨_,rfl,Below.refl _ _,fun h=>by cases h⟩
 ·have d : decide ((12 : Int) < (n : Int)) = false:=by simp;omega
  go_enter Try.func4,Try.ntmps4
  go_wp2
  go_loop [3] (fun iv=>∃ i : Nat,i <= n /\ iv = .int .i64 i /\ Hid (∀ (j : Nat) (e : WE),j < i -> es[j]? = some e -> e.n <= 8 \/ (40 < e.n /\ e.n <= 50))) (fun iv=>n - (intOf iv).toNat)
  case atStart=>exact ⟨0,Nat.zero_le _,rfl,fun j e h=>absurd h (Nat.not_lt_zero _)⟩
  case round =>
   obtain ⟨i,hik,rfl,hfew⟩:=hrel
   by_cases hin : i < n
   ·obtain ⟨b1,o1,e1,rfl,he1,hc1,hc1',hL1⟩:=h.at_ hin
    obtain ⟨neg1,A1,n1,c1,l1⟩:=e1;dsimp only at hc1 hc1' hL1;have h1m:=Nat.le_trans hL1.2.1 hL1.2.2.1;unfold maxLen at h1m;replace he1:=Zb he1;clear hL1;have hr:=Zb h;clear h
    by_cases t50 : 50 < n1
    ·have d1 : decide ((8 : Int) < (n1 : Int)) = true:=by simp;omega
     have d2 : decide ((n1 : Int) <= 40) = false:=by simp;omega
     have d3 : decide ((50 : Int) < (n1 : Int)) = true:=by simp;omega
     go_wp2
     go_ret;exact ⟨_,rfl,Below.refl _ _,fun h=>by cases h⟩
    ·have d3 : decide ((50 : Int) < (n1 : Int)) = false:=by simp;omega
     by_cases t8 : 8 < n1
     ·have d1 : decide ((8 : Int) < (n1 : Int)) = true:=by simp;omega
      by_cases t40 : n1 <= 40
      ·have d2 : decide ((n1 : Int) <= 40) = true:=by simp;omega
       go_wp2
       go_ret;exact ⟨_,rfl,Below.refl _ _,fun h=>by cases h⟩
      ·have d2 : decide ((n1 : Int) <= 40) = false:=by simp;omega
       go_wp2
       go_round
       case rel=>exact ⟨i + 1,by omega,by go_num,fun j e hj he=>by
           rcases Nat.lt_or_ge j i with h' | h'
           ·exact hfew.out j e h' he
           ·obtain rfl : j = i:=by omega
            rw [he1.out] at he
            cases he
            exact .inr ⟨by show 40 < n1;omega,by show n1 <= 50;omega⟩⟩
       case measure=>simp [intOf];omega
     ·have d1 : decide ((8 : Int) < (n1 : Int)) = false:=by simp;omega
      go_wp2
      go_round
      case rel=>exact ⟨i + 1,by omega,by go_num,fun j e hj he=>by
            rcases Nat.lt_or_ge j i with h' | h'
            ·exact hfew.out j e h' he
            ·obtain rfl : j = i:=by omega
             rw [he1.out] at he
             cases he
             exact .inl (by show n1 <= 8;omega)⟩
      case measure=>simp [intOf];omega
   ·obtain rfl : i = n:=by omega
    clear h
    go_wp2
    go_ret;exact ⟨_,rfl,Below.refl _ _,fun _=>⟨by rw [hlen.out];omega,fun j e he=>hfew.out j e (by rw [<- hlen.out];exact (List.getElem?_eq_some_iff.1 he).1) he⟩⟩
theorem Zr6 (A B : Option Addr) (n c m d : Nat) (es fs : List WE) (w : World) (he : WL w A n c es) (hf : WL w B m d fs) (hd : TwinE fs es) :
    Calls Try.prog 10 #[.slice A n c,.slice B m d] w fun e w'=>e = .returned (.bool true) /\ Below w.heap.size w w':=by
 obtain rfl : n = m:=by rw [<- he.len,<- hf.len];exact hd.1
 have hnc:=he.2.1;have hcm:=he.2.2.1;have hmd:=hf.2.1;have hdm:=hf.2.2.1;unfold maxLen at hcm hdm
 have hnn : ((n : Int) == (n : Int)) = true:=by simp
 replace hd:=Zb hd;go_enter Try.func10,Try.ntmps10;go_wp2_with fail
 go_loopw [5] (fun iv wr=>∃ i : Nat,i <= n /\ iv = .int .i64 i /\ Below w.heap.size w wr) (fun iv _=>n - (intOf iv).toNat)
 case atStart=>exact ⟨0,Nat.zero_le _,rfl,Below.refl _ _⟩
 case round =>
  obtain ⟨i,hik,rfl,hB⟩:=hrel
  by_cases hin : i < n
  ·obtain ⟨b1,o1,e1,rfl,he1,hc1,hc1',hL1⟩:=(he.below hB).at_ hin
   obtain ⟨b2,o2,e2,rfl,he2,hc2,hc2',hL2⟩:=(hf.below hB).at_ hin
   have hs : Zhq e1.neg e2.neg e1.l e2.l = true:=by
    obtain ⟨h1,h2,-⟩:=hd.out.2 i e2 e1 he2 he1;unfold Zhq;rw [h1,h2,Zgf]
    simp
   obtain ⟨neg1,A1,n1,c1,l1⟩:=e1;obtain ⟨neg2,A2,n2,c2,l2⟩:=e2;dsimp only at hc1 hc1' hL1 hc2 hc2' hL2 hs;replace hs:=Zb hs;replace he1:=Zb he1;replace he2:=Zb he2;have hlt1:=Zn hc1;have hlt2:=Zn hc2;go_wp2_with fail;have hL1' : Lim wr.drew A1 n1 c1 l1:=hL1;have hL2' : Lim wr.drew A2 n2 c2 l2:=hL2;have g0 : wr.drew.cell? ⟨b1,o1 + i * 2,none⟩ = some (.bool neg1):=hc1;have g1 : wr.drew.cell? ⟨b1,o1 + i * 2 + 1,none⟩ = some (.slice A1 n1 c1):=hc1';have g2 : wr.drew.cell? ⟨b2,o2 + i * 2,none⟩ = some (.bool neg2):=hc2;have g3 : wr.drew.cell? ⟨b2,o2 + i * 2 + 1,none⟩ = some (.slice A2 n2 c2):=hc2'
   go_region_held3 (fun w'=>w'.cell? ⟨b1,o1 + i * 2,none⟩ = some (.bool neg1) /\ w'.cell? ⟨b1,o1 + i * 2 + 1,none⟩ = some (.slice A1 n1 c1) /\ w'.cell? ⟨b2,o2 + i * 2,none⟩ = some (.bool neg2) /\ w'.cell? ⟨b2,o2 + i * 2 + 1,none⟩ = some (.slice A2 n2 c2))
       (((try dsimp only);(repeat' apply And.intro);all_goals (first | go_keep | (simp [*,go_sem];done))))
       (first
        | (go_at_call 22;refine (Zlh _ _ _ _ _ _ _ _ _ _ _ hL1' hL2').mono ?_;rintro e w5 ⟨he5,hb5⟩;rw [hs.out] at he5;subst he5;have k0:=Za hb5 g0;have k1:=Za hb5 g1;have k2:=Za hb5 g2;have k3:=Za hb5 g3;have hB5:=hB.trans ((Zm hb5).mono hB.size)))
   all_goals (
    go_wp2_with fail
    go_roundw
    case rel=>exact ⟨i + 1,by omega,by go_num,hB5⟩
    case measure=>simp [intOf];omega)
  ·obtain rfl : i = n:=by omega
   go_wp2_with fail;go_ret;exact ⟨rfl,hB⟩
theorem Zqn (na : Bool) (A : Option Addr) (n c : Nat) (la : List Nat) (w : World) (h : Lim w A n c la) (hn : n <= 1000000) :
    Calls Try.prog 5 #[.agg #[.bool na,.slice A n c]] w fun e w'=>∃ A' c',e = .returned (.agg #[.bool na,.slice A' n c']) /\ Below w.heap.size w w' /\ Lim w' A' n c' la:=by
 have hmx : Try.prog.follows .mixedOrders = true:=by kernel_rfl
 obtain ⟨i0,hi,hz0,hz1,hz2⟩:=info_parts Zcl;obtain ⟨W0,hW0,hB0,⟨q0,q1⟩,s0⟩:=Ztx w 26 #[.bool na,.slice A n c] 26 #[.bool false,.slice none 0 0];have hL0:=h.below hB0;obtain ⟨c0,c1,-,-⟩:=q0.two;replace hL0:=Zb hL0;go_enter Try.func5,Try.ntmps5;go_wp2_with fail;(try rw [hW0]);clear hW0;obtain ⟨X0,hX0⟩ : ∃ X,W0.drew = X:=⟨_,rfl⟩
 have hr1 : Below W0.heap.size W0 X0:=by rw [<- hX0];exact Zr (Below.refl _ _) 1
 have hSv1 : Hid (∀ wx,Below W0.heap.size W0 wx -> wx.cell? ⟨w.heap.size,0,none⟩ = some (.bool na) /\ wx.cell? ⟨w.heap.size,1,none⟩ = some (.slice A n c)):=Zb (fun wx hbx=>⟨Za hbx c0,Za hbx c1⟩);refine wp_heldS [] hmx hSv1 (by rw [hX0];exact hr1) (fun hxs=>?_);rw [hX0];refine Zt2 4 [0,1,3,4] rfl (by kernel_rfl) (hSv1.out _ hr1) ?_
 iterate 4 (refine tkA ?_;try simp only [Act.put,putL_a,putL_z,putL_s,putG_a,putG_s,putG_z])
 refine tk0 ?_;obtain ⟨Y1,hY1⟩ : ∃ Y,X0.alloc (.cells #[] 71) = Y:=⟨_,rfl⟩;obtain ⟨ga,hga⟩ : ∃ g,X0.heap.size = g:=⟨_,rfl⟩
 have hBY : Below X0.heap.size X0 Y1:=by rw [<- hY1];exact (Below.refl _ _).alloc (Nat.le_refl _) _
 have hr2 : Below W0.heap.size W0 Y1:=hr1.trans (hBY.mono hr1.size)
 have hoe : Y1.ownsRow ga 71 1 (.slice (some ⟨ga,0,none⟩) 0 0) 0 []:=by rw [<- hY1,<- hga];exact Zgr _ _ _
 have hgY : ga <= Y1.heap.size:=by rw [<- hga];exact hBY.size
 have hga0 : W0.heap.size <= ga:=by rw [<- hga];exact hr1.size
 refine wpAnyL_o 2 fun K hK=>?_
 go_simp;(try rw [hY1]);(try rw [hga]);refine hK.out _ _ (fun _=>hSv1.out _ hr2) ?_;clear hK K hY1 hga
 try simp only [Act.put,putL_a,putL_z,putL_s]
 refine wpAnyL_o 5 fun K hK=>?_
 rw [if_pos (by rfl)];refine Zgx _ (.tmp 5) (.tmp 7) 24 rfl ga 71 i0 _ 1 4 Try.underlying24 hi hz0 hz1 hz2 rfl (by omega) (.slice (some ⟨ga,0,none⟩) 0 0) 0 [] rfl hoe _ A n c (la.map limb) rfl (hL0.out.below hr2).reads (Zcq _) (by simp only [maxLen];omega) (by omega) hgY ?_;intro v2 Y2 hO2 hg2 _;have hOL : OwnL 71 Y2 ga v2 ([] ++ la):=OwnL.append (l:=[]) rfl h.len.symm hO2 Lt32.nil h.lt;rw [List.nil_append] at hOL;obtain ⟨nA,nc,rfl,hL2⟩:=hOL.lim;rw [h.len] at hL2 ⊢
 have hr3 : Below W0.heap.size W0 Y2:=hr2.grown hg2 hr2.size (fun k hk=>by
  have : ga = k:=by simpa [Value.ownBlock] using hk
  omega)
 refine hK.out _ _ (fun _=>hSv1.out _ hr3) ?_;clear hK K hOL hO2 hg2 hoe
 try simp only [Act.put,putL_a,putL_z,putL_s]
 refine Zt1 1 [6] rfl (by kernel_rfl) (hSv1.out _ hr3) ?_
 (refine tkA ?_;try simp only [Act.put,putL_a,putL_z,putL_s,putG_a,putG_s,putG_z])
 refine tk0 ?_;have q1Y:=q1.below hr3 q1.lt;obtain ⟨d0,d1,z0,z1⟩:=q1Y.two;obtain ⟨Z,hZ,hBZ,qZ,st⟩:=Zu na nA n nc (hB0.trans (hr3.mono hB0.size)) (show w.heap.size <= w.heap.size + 1 by omega) q1Y;have q0Y:=q0.below hr3 q0.lt;have q0Z:=st.2.1 _ _ _ (by omega) q0Y;obtain ⟨e0,e1,-,-⟩:=q0Z.two
 have hkZ : Kept (fun k=>k = w.heap.size + 1) Y2 Z:=by
  rw [<- hZ];exact ((Kept.refl (fun k=>k = w.heap.size + 1) Y2).set_ (p:=⟨w.heap.size + 1,0,none⟩) (.inl rfl) _).set_ (p:=⟨w.heap.size + 1,1,none⟩) (.inl rfl) _
 have hLZ:=hkZ.lim hL2 (fun k hk=>⟨_,_,hk ▸ q1Y,noLimb2 (fun k=>by simp) (fun k=>by simp)⟩);obtain ⟨r0,r1,-,-⟩:=qZ.two;replace hLZ:=Zb hLZ
 refine wpAnyL_o 7 fun K hK=>?_
 go_simp;(try rw [hZ]);refine hK.out _ _ (fun _=>⟨e0,e1⟩) ?_;clear hK K
 try simp only [Act.put,putL_a,putL_z,putL_s]
 refine wpAnyL_fin ?_;clear d0 d1 z0 z1 e0 e1 c0 c1 hxs hSv1 hr1;go_wp2_with fail;refine bodyPost_ret (v:=.agg #[.bool na,.slice nA n nc]) (by simp [results,Try.results5,go_sem,r0,r1]) rfl ?_;exact ⟨_,_,rfl,hBZ,hLZ.out⟩
def RawP (t : TypeId) (w : World) (base : Nat) (v : Value) (es : List WE) : Prop:=RowW t w base v es /\ ∀ e ∈ es,Lim w e.A e.n e.c e.l
theorem RawP.nil (t : TypeId) (w : World) (base : Nat) : RawP t w base (.slice none 0 0) []:=⟨.inl ⟨rfl,rfl⟩,fun e h=>by simp at h⟩
theorem RawP.kept {t : TypeId} {w w' : World} {base : Nat} {v : Value} {es : List WE} (h : RawP t w base v es) (hb : Below w.heap.size w w') : RawP t w' base v es:=⟨h.1.kept hb,fun e he=>(h.2 e he).below hb⟩
theorem RawP.wl {t : TypeId} {w : World} {base : Nat} {v : Value} {es : List WE} (h : RawP t w base v es) : ∃ A c,v = .slice A es.length c /\ WL w A es.length c es:=by
 obtain ⟨h1,h2⟩:=h
 rcases h1 with ⟨rfl,rfl⟩ | ⟨g,sp,rfl,h4,h5,h6⟩
 ·exact ⟨none,0,rfl,⟨rfl,Nat.le_refl _,Nat.zero_le _,fun h=>absurd h (by simp),fun e h=>by simp at h⟩⟩
 ·refine ⟨_,es.length + sp,rfl,⟨rfl,Nat.le_add_right _ _,h5,fun _=>⟨g,0,rfl,fun k e he=>?_⟩,fun e he=>h2 e he⟩⟩
  have hk : k < es.length:=(List.getElem?_eq_some_iff.1 he).1;have hc:=Zd7 (es:=es ++ List.replicate sp Zao) (i:=k) (e:=e) (by rw [List.getElem?_append_left hk];exact he);rw [Nat.zero_add,h6.cell,h6.cell];exact hc
theorem Zhz {P : Program} {w : World} {ops : Array Oper} {rest : List Oper} {o : Oper} {a : Act} {Q : Exit -> Act -> World -> Prop} (hgd : o.guard = none) (s x : Operand) (t : TypeId)
    (ho : o.op = .call { callee:=.builtin .append,args:=#[s,x],argTypes:=#[t,t] })
    (base : Nat) (e : TypeId) (i : TypeInfo) (ht : P.underlying t = some (.slice e)) (hi : P.info? e = some i) (hz : i.zero = some (.agg #[.bool false,.slice none 0 0])) (hsi : i.size = 2) (hby : i.bytes = 32)
    (v : Value) (xs : List WE) (hs : a.eval s = v) (hown : RawP e w base v xs)
    (B : Nat) (A : Option Addr) (m c : Nat) (fs : List WE) (hx : a.eval x = .slice A m c) (hr : Reads w B 2 A m (Z0 fs)) (hm : fs.length = m) (hfs : ∀ e ∈ fs,Lim w e.A e.n e.c e.l)
    (h63 : xs.length + m <= 1000) (hbase : base <= w.heap.size)
    (h : ∀ v' w',RawP e w' base v' (xs ++ fs) -> w.grownBy w' v.ownBlock -> wpList P ops Q rest (a.put o.dst v') w') : wpList P ops Q (o :: rest) a w:=
 wpList_plain hgd fun K hK=>by
  obtain ⟨h1,h2⟩:=hown;obtain ⟨v',w',hrun,h3,h4⟩:=Zf1 (P:=P) w base t o.type e i ht hi hz hsi hby v xs h1 B A m c fs hr hm h63 hbase;unfold Oper.wp execOp;simp only [ho,resolve,invoke,builtin,Sem.run_bind,Sem.run_pure,Result.andThen_ok,List.map_toArray,List.map_cons,List.map_nil,hs,hx,hrun]
  have hk : ∀ (A : Option Addr) (n c : Nat) (l : List Nat),Lim w A n c l -> Lim w' A n c l:=fun _ _ _ _ hL=>h1.keep h4 hL
  refine hK _ _ (h v' w' ⟨h3,fun e he=>?_⟩ h4)
  rcases List.mem_append.1 he with he | he
  ·exact hk _ _ _ _ (h2 e he)
  ·exact hk _ _ _ _ (hfs e he)
def ansLp : Option (List Int) -> List Int
 | none=>[]
 | some ys=>if okP (Zf ys) = true then Zf ys else []
def Zoj : Option (List Int) -> Int
 | none=>8
 | some ys=>if okP (Zf ys) = true then 0 else 16
def Zl4 (w : World) (z : Option (List Int)) (e : Ending) (w' : World) : Prop:=
 Below w.heap.size w w' /\ ∃ A n c,e = .returned (.tuple #[.slice A n c,.int .i64 (Zoj z)]) /\ PolyL w' A n c (ansLp z)
theorem ResPoly.ansp {w w' : World} {ys : List Int} {e : Ending} (h : ResPoly w ys e w') : Zl4 w (some ys) e w':=by
 obtain ⟨hb,A,n,c,code,rfl,⟨h1,rfl,h2⟩ | ⟨h1,rfl,rfl,rfl⟩⟩:=h
 ·exact ⟨hb,A,n,c,by simp only [Zoj,if_pos h1],by simp only [ansLp,if_pos h1];exact h2⟩
 ·have h1' : ¬ okP (Zf ys) = true:=by rw [h1];simp
  exact ⟨hb,A,0,0,by simp only [Zoj,if_neg h1'],by simp only [ansLp,if_neg h1'];exact PolyL.nil _ _ _ (Nat.zero_le _)⟩
theorem BadPoly.ansp {w w' : World} {e : Ending} (h : BadPoly w e w') : Zl4 w none e w':=by
 obtain ⟨hb,A,rfl⟩:=h;exact ⟨hb,A,0,0,rfl,PolyL.nil _ _ _ (Nat.zero_le _)⟩
theorem Zdx {w : World} {A : Option Addr} {n c : Nat} {es : List WE} (hL : WL w A n c es) (kp : pOk es = true) : Z2 (es.map WE.num) = true:=by
 rcases Zp5 hL kp with h | h
 ·have : es = []:=List.eq_nil_of_length_eq_zero (by rw [hL.len];exact h)
  rw [this];rfl
 ·rcases Nat.eq_zero_or_pos (es.map WE.num).length with h0 | h0
  ·rw [List.eq_nil_of_length_eq_zero h0];rfl
  ·exact Zb1 ⟨h0,h⟩
theorem FewE.bnd {w : World} {A : Option Addr} {n c : Nat} {es : List WE} (hL : WL w A n c es) (kp : pOk es = true) (hf : FewE es) : Bnd 8 (es.map WE.num):=fun i=>by
 show ((es.map WE.num)[i]?.getD 0).natAbs < pw 8;rw [List.getElem?_map]
 cases he : es[i]? with
 | none=>exact Za7 _
 | some e =>
  have hm:=List.mem_of_getElem? he;have hl:=hL.2.2.2.2 e hm;have h40:=((Zbw kp).2 e hm).2;have hen:=hl.len
  have h8 : e.n <= 8:=by
   rcases hf.2 i e he with h | h
   ·exact h
   ·omega
  show (sg e.neg (val e.l)).natAbs < pw 8
  have h1 : (sg e.neg (val e.l)).natAbs = val e.l:=by unfold sg;split <;> simp
  rw [h1];have h2:=Zen hl.lt;exact Nat.lt_of_lt_of_le h2 (Zdn (by rw [hen];exact h8))
theorem TwinE.num {es fs : List WE} (h : TwinE es fs) : fs.map WE.num = es.map WE.num:=by
 apply List.ext_getElem
 ·rw [List.length_map,List.length_map];exact h.1
 ·intro i h1 h2
  rw [List.length_map] at h1 h2;obtain ⟨a,b,-⟩:=h.2 i _ _ (List.getElem?_eq_getElem h2) (List.getElem?_eq_getElem h1);rw [List.getElem_map,List.getElem_map];unfold WE.num;rw [a,b]
theorem TwinE.few {es fs : List WE} (h : TwinE es fs) (hf : FewE es) : FewE fs:=⟨by rw [h.1];exact hf.1,fun i f hfi=>by
 have hi : i < es.length:=by rw [<- h.1];exact (List.getElem?_eq_some_iff.1 hfi).1
 obtain ⟨-,-,c⟩:=h.2 i _ _ (List.getElem?_eq_getElem hi) hfi;rw [c]
 exact hf.2 i _ (List.getElem?_eq_getElem hi)⟩
theorem TwinE.ok {es fs : List WE} (h : TwinE es fs) : pOk fs = pOk es:=by
 have h1 : fs.map (fun e=>(e.neg,e.l)) = es.map (fun e=>(e.neg,e.l)):=by
  apply List.ext_getElem
  ·rw [List.length_map,List.length_map];exact h.1
  ·intro i h1 h2
   rw [List.length_map] at h1 h2;obtain ⟨a,b,-⟩:=h.2 i _ _ (List.getElem?_eq_getElem h2) (List.getElem?_eq_getElem h1);rw [List.getElem_map,List.getElem_map,a,b]
 have h2 : ∀ l : List WE,pOk l = (decide ((l.map fun e=>(e.neg,e.l)).length <= 9) && !(l.map fun e=>(e.neg,e.l)).any (fun p=>WE.bad ⟨p.1,none,0,0,p.2⟩) && !((l.map fun e=>(e.neg,e.l)).getLast?.any fun p=>p.2.isEmpty)):=fun l=>by
  unfold pOk;rw [List.length_map,List.any_map,List.getLast?_map,Option.any_map]
  rfl
 rw [h2,h2,h1]
theorem Ztj (A B : Option Addr) (n c m d : Nat) (ps qs : List WE) (w : World) (hp : WL w A n c ps) (hq : WL w B m d qs) (fp : FewE ps) (fq : FewE qs) :
    Calls Try.prog 6 #[.slice A n c,.slice B m d] w (Zl4 w (if (pOk ps && pOk qs) = true then some (Za1 (ps.map WE.num) (qs.map WE.num)) else none)):=by
 by_cases hk : (pOk ps && pOk qs) = true
 ·rw [if_pos hk]
  rw [Bool.and_eq_true] at hk;have h1:=(FewE.bnd hp hk.1 fp).mono (show 8 <= 9 by decide);have h2:=(FewE.bnd hq hk.2 fq).mono (show 8 <= 9 by decide)
  exact (pGcd_ok Zlx _ _ _ _ _ _ _ _ _ hp hq hk.1 hk.2 (Zgk (Zdx hp hk.1) (Zdx hq hk.2) h1 h2 (by rw [List.length_map];exact Zck hk.1) (by rw [List.length_map];exact Zck hk.2))).mono fun _ _ h=>h.ansp
 ·rw [if_neg hk]
  exact (Zsf _ _ _ _ _ _ _ _ _ hp hq (by simpa using hk)).mono fun _ _ h=>h.ansp
theorem Zso (A B : Option Addr) (n c m d : Nat) (ps qs : List WE) (w : World) (hp : WL w A n c ps) (hq : WL w B m d qs) (fp : FewE ps) (fq : FewE qs) :
    Calls Try.prog 7 #[.slice A n c,.slice B m d] w (Zl4 w (if (pOk ps && pOk qs) = true then some (Za1 (ps.map WE.num) (qs.map WE.num)) else none)):=by
 by_cases hk : (pOk ps && pOk qs) = true
 ·rw [if_pos hk]
  rw [Bool.and_eq_true] at hk;have h1:=(FewE.bnd hp hk.1 fp).mono (show 8 <= 9 by decide);have h2:=(FewE.bnd hq hk.2 fq).mono (show 8 <= 9 by decide);have h3:=Zdx hp hk.1;have h4:=Zdx hq hk.2
  have h5 : (ps.map WE.num).length <= 9:=by rw [List.length_map];exact Zck hk.1
  have h6 : (qs.map WE.num).length <= 9:=by rw [List.length_map];exact Zck hk.2
  have h:=sGcd_ok A B n c m d ps qs w hp hq hk.1 hk.2 h3 h4 (Zj6 h3 h4 h1 h2 h5 h6);rw [Znv h3 h4 h1 h2 h5 h6] at h
  exact h.mono fun _ _ h=>h.ansp
 ·rw [if_neg hk]
  exact (Zsa _ _ _ _ _ _ _ _ _ hp hq (by simpa using hk)).mono fun _ _ h=>h.ansp
theorem Zr2 (A : Option Addr) (n c : Nat) (ps : List WE) (w : World) (hp : WL w A n c ps) (fp : FewE ps) :
    Calls Try.prog 8 #[.slice A n c] w (Zl4 w (if pOk ps = true then some (Zbl (ps.map WE.num)) else none)):=by
 by_cases hk : pOk ps = true
 ·rw [if_pos hk]
  by_cases hn0 : n = 0
  ·have hps : ps = []:=List.eq_nil_of_length_eq_zero (by rw [hp.len];exact hn0)
   have hz : Zbl (ps.map WE.num) = []:=by rw [hps];exact Zia
   rw [hz];refine (Zqx A n c ps w hp hk hn0).mono ?_;rintro e w' ⟨hb,rfl⟩;exact ⟨hb,none,0,0,rfl,PolyL.nil _ _ _ (Nat.zero_le _)⟩
  ·have h3:=Zdx hp hk
   have tp : Top (ps.map WE.num):=(Za5 h3).resolve_left (fun h=>hn0 (by rw [<- hp.len,<- List.length_map (f:=WE.num),h];rfl));obtain ⟨h1,h2,-⟩:=Zgt tp (FewE.bnd hp hk fp) (by rw [List.length_map];exact Zck hk)
   exact (Zsn Zlx A n c ps w hp hk (by omega) (Zfz (Zej tp)) h1 h2).mono fun _ _ h=>h.ansp
 ·rw [if_neg hk]
  exact (Zrh _ _ _ _ _ hp (by simpa using hk)).mono fun _ _ h=>h.ansp
theorem Zqg (A : Option Addr) (n c : Nat) (ps : List WE) (w : World) (hp : WL w A n c ps) (fp : FewE ps) :
    Calls Try.prog 9 #[.slice A n c] w (Zl4 w (if pOk ps = true then some (Zbl (ps.map WE.num)) else none)):=by
 by_cases hk : pOk ps = true
 ·rw [if_pos hk]
  exact (Zsk A n c ps w hp hk (Zdx hp hk) (FewE.bnd hp hk fp)).mono fun _ _ h=>h.ansp
 ·rw [if_neg hk]
  exact (Zq7 _ _ _ _ _ hp (by simpa using hk)).mono fun _ _ h=>h.ansp
theorem Zqi {es fs : List WE} {i : Nat} (hi : i < es.length) (h : TwinE (es.take i) fs) {A : Option Addr} {c : Nat} : TwinE (es.take (i + 1)) (fs ++ [⟨es[i].neg,A,es[i].n,c,es[i].l⟩]):=by
 have hl : fs.length = i:=by have:=h.1;rw [List.length_take] at this;omega
 refine ⟨by rw [List.length_append,List.length_take];simp;omega,fun j e f he hf=>?_⟩
 rcases Nat.lt_or_ge j i with hj | hj
 ·rw [List.getElem?_append_left (by omega)] at hf
  refine h.2 j e f ?_ hf;rw [List.getElem?_take_of_lt hj];rw [List.getElem?_take_of_lt (by omega)] at he;exact he
 ·have hj2 : j < i + 1:=by
    have:=(List.getElem?_eq_some_iff.1 hf).1;rw [List.length_append] at this
    simp at this
    omega
  obtain rfl : j = i:=by omega
  rw [List.getElem?_append_right (by omega),hl,Nat.sub_self] at hf
  cases hf
  rw [List.getElem?_take_of_lt (by omega),List.getElem?_eq_getElem hi] at he
  cases he
  exact ⟨rfl,rfl,rfl⟩
theorem Zqj (A B : Option Addr) (n c m d : Nat) (ps qs : List WE) (w : World) (hp : WL w A n c ps) (hq : WL w B m d qs) :
    Calls Try.prog 3 #[.slice A n c,.slice B m d] w fun e w'=>e = .returned (.bool true) /\ Below w.heap.size w w':=by
 obtain ⟨iw,hi,hz0,hz1,hz2⟩:=info_parts Zfm;have hlen:=hp.len;have hcm:=hp.2.2.1;have hnc:=hp.2.1;unfold maxLen at hcm;replace hlen:=Zb hlen;replace hp:=Zb hp;replace hq:=Zb hq;go_enter Try.func3,Try.ntmps3;go_wp2_with fail;refine (Zj9 _ _ _ _ _ hp.out).mono ?_;rintro e w1 ⟨b1,rfl,hb1,hf1⟩
 cases b1
 case true =>
  go_wp2_with fail;go_returns;exact ⟨rfl,hb1⟩
 have fp:=Zb (hf1 rfl);clear hf1;go_wp2_with fail;refine (Zj9 _ _ _ _ _ (hq.out.below hb1)).mono ?_;rintro e w2 ⟨b2,rfl,hb2,hf2⟩;have hB2:=hb1.trans (hb2.mono hb1.size)
 cases b2
 case true =>
  go_wp2_with fail;go_returns;exact ⟨rfl,hB2⟩
 have fq:=Zb (hf2 rfl);clear hf2 hb1 hb2;have hn12 : Hid (n <= 12):=Zb (by rw [<- hlen.out];exact fp.out.1);replace hB2:=Zb hB2;go_wp2_with fail
 go_loopg [5,6] n (fun k ov iv wr=>∃ (i : Nat) (fs : List WE),i + k = n /\ iv = .int .i64 i /\ RawP 26 wr w.heap.size ov fs /\ Hid (TwinE (ps.take i) fs) /\ Below w.heap.size w wr)
 case atStart=>exact ⟨0,[],by omega,rfl,RawP.nil _ _ _,Zb ⟨by simp,fun j e f _ h=>by simp at h⟩,hB2.out⟩
 case round =>
  clear hB2;obtain ⟨i,fs,hik,rfl,hown,htw,hB⟩:=hrel;obtain ⟨wA,rfl⟩ : ∃ x : World,x = wr:=⟨_,rfl⟩
  cases gk with
  | succ gk' =>
   obtain rfl : gk' = n - (i + 1):=by omega
   have hin : i < n:=by omega
   have tlt : decide ((i : Int) < (n : Int)) = true:=by simp;omega
   have bI : (i : Int) < (n : Int):=by omega
   obtain ⟨b,o,e1,hA,he1,c1,c2,hL1⟩:=(hp.out.below hB).at_ hin
   cases hA
   have hil : i < ps.length:=by rw [hlen.out];exact hin
   have hei : ps[i] = e1:=by
    have:=List.getElem?_eq_getElem hil;rw [this] at he1
    injection he1
   have hn50 : e1.n <= 50:=by
    rcases fp.out.2 i e1 he1 with h | h <;> omega
   have hst:=Zb (fun A c=>Zqi (A:=A) (c:=c) hil htw.out);rw [hei] at hst;have hfl : Hid (fs.length <= 12):=Zb (by have h1:=htw.out.1;rw [List.length_take] at h1;have:=hn12.out;omega);obtain ⟨ne,Ae,ke,ce,le⟩:=e1;dsimp only at c1 c2 hL1 hn50 hst;replace he1:=Zb he1;replace hei:=Zb hei;replace hil:=Zb hil;replace hown:=Zb hown;replace hB:=Zb hB;go_wp2_with fail;refine (Zqn ne Ae ke ce le wA hL1 (by omega)).mono ?_;rintro e w5 ⟨A5,c5,rfl,hb5,hL5⟩;replace hown:=hown.out.kept hb5;replace hB:=hB.out.trans (hb5.mono hB.out.size);clear c1 c2 hL1 hb5;go_wp2_with (at_builtin;refine Zhz rfl (.tmp 27) (.tmp 33) 22 rfl w.heap.size 26 iw Try.underlying22 hi hz0 hz1 hz2 _ _ rfl (by exact hown.kept ((Below.refl _ _).alloc (Nat.le_refl _) _)) _ _ 1 1 [⟨ne,A5,ke,c5,le⟩] rfl (Zdu _ _ _ _ _ _ _) rfl (List.forall_mem_singleton.2 (hL5.alloc _)) (by have:=hfl.out;omega) (by have:=hB.size;simp;omega) ?_;intro v7 w7 hown7 hg7);have hB7:=(hB.alloc hB.size _).grown hg7 (by have:=hB.size;simp;omega) hown.1.row_ge;have htw7:=Zb (hst.out A5 c5);replace hB7:=Zb hB7;replace hown7:=Zb hown7;clear hown hB hL5
   go_roundg (n - (i + 1))
   case measure=>omega
   case rel=>exact ⟨i + 1,_,by omega,by go_num,hown7.out,htw7,hB7.out⟩
  | zero =>
   obtain rfl : i = n:=by omega
   have tge : decide ((i : Int) < (i : Int)) = false:=by simp
   have htw2 : TwinE ps fs:=by have:=htw.out;rwa [List.take_of_length_le (by rw [hlen.out];exact Nat.le_refl _)] at this
   obtain ⟨O,co,hov,hW⟩:=hown.wl;subst hov
   have hfl : fs.length = i:=by rw [htw2.1];exact hlen.out
   rw [hfl] at hW ⊢;have f2:=htw2.few fp.out;have hok:=htw2.ok;have hnum:=htw2.num;have H1:=Zb (fun W (h1 : WL W O i co fs) h2=>Ztj O B i co m d fs qs W h1 h2 f2 fq.out);have H2:=Zb (fun W (h1 : WL W A i c ps) h2=>Zso A B i c m d ps qs W h1 h2 fp.out fq.out);have H3:=Zb (fun W (h1 : WL W O i co fs)=>Zr2 O i co fs W h1 f2);have H4:=Zb (fun W (h1 : WL W A i c ps)=>Zqg A i c ps W h1 fp.out);rw [hok,hnum] at H1 H3
   generalize (if (pOk ps && pOk qs) = true then some (Za1 (ps.map WE.num) (qs.map WE.num)) else none) = zG at H1 H2
   generalize (if pOk ps = true then some (Zbl (ps.map WE.num)) else none) = zF at H3 H4
   replace hW:=Zb hW;replace hB:=Zb hB;replace htw2:=Zb htw2;clear hok hnum f2 hown htw hfl;go_wp2_with fail;refine (H1.out wA hW.out (hq.out.below hB.out)).mono ?_;rintro e w3 ⟨hb3,A3,n3,c3,rfl,hP3⟩;have hB3:=hB.out.trans (hb3.mono hB.out.size);have hW3:=hW.out.below hb3;clear H1 hW hB;go_wp2_with fail;refine (H2.out w3 (hp.out.below hB3) (hq.out.below hB3)).mono ?_;rintro e w4 ⟨hb4,A4,n4,c4,rfl,hP4⟩;have hB4:=hB3.trans (hb4.mono hB3.size);have hW4:=hW3.below hb4;have hP34:=hP3.below hb4;clear H2 hW3 hP3 hB3;go_wp2_with fail;refine (H3.out w4 hW4).mono ?_;rintro e w5 ⟨hb5,A5,n5,c5,rfl,hP5⟩;have hB5:=hB4.trans (hb5.mono hB4.size);have hW5:=hW4.below hb5;have hP35:=hP34.below hb5;have hP45:=hP4.below hb5;clear H3 hW4 hP34 hP4 hB4;go_wp2_with fail;refine (H4.out w5 (hp.out.below hB5)).mono ?_;rintro e w6 ⟨hb6,A6,n6,c6,rfl,hP6⟩;have hB6:=hB5.trans (hb6.mono hB5.size);have hW6:=Zb (hW5.below hb6);have hP36:=Zb (hP35.below hb6);have hP46:=Zb (hP45.below hb6);have hP56:=Zb (hP5.below hb6);replace hP6:=Zb hP6;replace hB6:=Zb hB6;clear H4 hW5 hP35 hP45 hP5 hB5 hb3 hb4 hb5 hb6;obtain ⟨cG,hcG⟩ : ∃ x,Zoj zG = x:=⟨_,rfl⟩;obtain ⟨cF,hcF⟩ : ∃ x,Zoj zF = x:=⟨_,rfl⟩;rw [hcG,hcF]
   have q1 : (cG == cG) = true:=by simp
   have q2 : (cF == cF) = true:=by simp
   clear hcG hcF;go_wp2_with fail;refine (Zl3 _ _ _ _ _ _ _ w6 hP36.out hP46.out).mono ?_;rintro e w7 ⟨rfl,hb7⟩;have hB7:=Zb (hB6.out.trans (hb7.mono hB6.out.size));have hW7:=Zb (hW6.out.below hb7);have hP57:=Zb (hP56.out.below hb7);have hP67:=Zb (hP6.out.below hb7);clear hP36 hP46 hB6 hW6 hP56 hP6 hb7;go_wp2_with fail;refine (Zl3 _ _ _ _ _ _ _ w7 hP57.out hP67.out).mono ?_;rintro e w8 ⟨rfl,hb8⟩;have hB8:=Zb (hB7.out.trans (hb8.mono hB7.out.size));have hW8:=Zb (hW7.out.below hb8);clear hP57 hP67 hB7 hW7 hb8;go_wp2_with fail;refine (Zr6 _ _ _ _ _ _ _ _ w8 hW8.out (hp.out.below hB8.out) htw2.out).mono ?_;rintro e w9 ⟨rfl,hb9⟩;have hB9:=Zb (hB8.out.trans (hb9.mono hB8.out.size));clear hB8 hW8 hb9;go_wp2_with fail;go_returns;exact ⟨rfl,hB9.out⟩
open Go.ChangeShapes Go.WideShapes Go.Deep Go.RowKit
section
variable {H : Type} {enc : TypeId × Value -> H} {P : Program} {w : World} {base : Nat} {spare : Nat -> Bool} {held : Bool}
theorem Zhs {t e : TypeId} {fs : Array Field} {fuel : Nat} {cs : List Value} {x : DataW H × List MemPlace} (ht : P.underlying t = some (.slice e)) (he : P.underlying e = some (.struct fs))
    (hone : oneCellFields P fs = true) (hC : P.cellsOf e = fs.size) (h : DataW.trod enc P w base spare held fuel t cs = some x) :
    (cs = [.slice none 0 0] /\ x = (.nil,[])) \/
    ∃ (a : Addr) (len cap m : Nat) (D : Nat -> DataW H) (Pl : Nat -> List MemPlace),cs = [.slice (some a) len cap] /\ base <= a.block /\ len <= cap /\ cap <= maxLen /\ m = (if spare a.block then cap else len) /\
     x = (.slice ((List.range len).map D) ((List.range (m - len)).map fun j=>D (len + j)),MemPlace.row a (m * fs.size) ++ (List.range m).flatMap Pl) /\
     ∀ i,i < m -> ∃ (ys : List (DataW H × List MemPlace)) (n : Nat),D i = .agg (ys.map (·.1)) /\ Pl i = ys.flatMap (·.2) /\ ys.length = fs.size /\
      ∀ (j : Nat) (f : Field),fs[j]? = some f -> ∃ (v : Value) (y : DataW H × List MemPlace),w.cell? (a.add (i * fs.size + j)) = some v /\ ys[j]? = some y /\ DataW.trod enc P w base spare held n f.type [v] = some y:=by
 rcases open_slice ht h with h0 | ⟨a,len,cap,m,n,D,Pl,hcs,hb,hl,hm,hmm,hx,hi⟩
 ·exact .inl h0
 ·refine .inr ⟨a,len,cap,m,D,Pl,hcs,hb,hl,hm,hmm,by rw [hC] at hx;exact hx,fun i him=>?_⟩
  obtain ⟨cs',hc,ht'⟩:=hi i him;rw [hC] at hc;obtain ⟨ys,n',hn',hy,hlen,hyl,hf⟩:=DataW.trod_struct he ht';obtain ⟨_,hcl,hat⟩:=World.cells?_some hc;simp only [Prod.mk.injEq] at hy;refine ⟨ys,n',hy.1,hy.2,hyl,fun j f hj=>?_⟩;obtain ⟨ho,hk⟩:=hone_of hone j f hj;have hjl : j < fs.size:=(Array.getElem?_eq_some_iff.1 hj).1;have hcell:=hat j hjl;have hv : cs'[j]? = some (cs'[j]'(by omega)):=List.getElem?_eq_getElem (by omega);have h1:=hf j f hj;rw [ho,hk] at h1
  have hone' : (cs'.drop j).take 1 = [cs'[j]'(by omega)]:=by
   rw [List.drop_eq_getElem_cons (by omega)]
   rfl
  rw [hone'] at h1;have hys : ys[j]? = some (ys[j]'(by omega)):=List.getElem?_eq_getElem (by omega);refine ⟨_,_,?_,hys,h1.trans hys⟩;rw [<- Go.Deep.add_add,hcell,hv]
end
section
variable {H : Type} {enc : TypeId × Value -> H} {P : Program}
theorem Zkx {f : Func} {s : ChangeSpec} {apart fresh handsOn again : Bool} {W W' : World} {args : Array Value} {v : Value} {ds gs : List (DataW H)} {before pa pv : List MemPlace}
    (hW : DataW.Whole enc P f.params.toList s.vars apart W args.toList ds gs before)
    (hres : ∀ (b : Nat) (sp : Nat -> Bool) (hd : Bool),DataW.TrodAll enc P W' b sp hd f.resultTypes.toList (v.resultList f.resultTypes.size) (s.fn H (ds ++ gs)).results [])
    (hargs : ∀ sp : Nat -> Bool,(∀ p ∈ before,sp p.block = true) -> DataW.TrodAll enc P W' 0 sp true f.params.toList args.toList (s.fn H (ds ++ gs)).args pa)
    (hvars : ∀ sp : Nat -> Bool,(∀ p ∈ before,sp p.block = true) -> DataW.TrodVars enc P W' sp s.vars (s.fn H (ds ++ gs)).vars pv)
    (hps : before = pa ++ pv) (hb : Below W.heap.size W W')
    (hok : ∀ (j : Nat) (t : TypeId) (r : Value),f.resultTypes[j]? = some t -> (v.resultList f.resultTypes.size)[j]? = some r -> Value.okWide P W' .any 0 t r) :
    s.post enc P f apart fresh handsOn again W args v W':=by
 have hlt : ∀ p ∈ before,p.block < W.heap.size:=fun p hp=>hW.lt p hp
 have hold : ∀ p ∈ before,(fun b=>decide (b < W.heap.size)) p.block = true:=fun p hp=>by simpa using hlt p hp
 refine ⟨ds,gs,before,[],pa,pv,hW,hres _ _ _,hargs _ hold,hvars _ hold,World.keptBut_mono (fun p hp=>⟨hp,?_⟩) (hb.frame (· ∈ before)),fun _=>?_⟩
 ·rw [hps,List.mem_append] at hp
  exact Or.inr hp
 ·obtain ⟨_,_,_,_,_,hz,hn⟩:=hW
  refine ⟨hok,_,_,([] ++ pa) ++ pv,⟨[] ++ pa,pv,trodAll_append (hargs _ (fun _ _=>rfl)) (hres _ _ _),hvars _ (fun _ _=>rfl),rfl,?_,?_⟩,?_⟩
  ·intro b off hp
   have hin : MemPlace.cell b off ∈ before:=by rw [hps];simpa using hp
   rw [hb.frozen (hlt _ hin)];exact hz b off hin
  ·intro ha
   have:=hn ha;rw [hps] at this
   simpa using this
  ·intro p hp _
   rw [hps]
   simpa using hp
end
theorem list_of {α : Type} (P : Nat -> α -> Prop) (n : Nat) (h : ∀ i,i < n -> ∃ e,P i e) : ∃ es : List α,es.length = n /\ ∀ (k : Nat) (e : α),es[k]? = some e -> P k e:=by
 induction n with
 | zero=>exact ⟨[],rfl,fun k e h=>by simp at h⟩
 | succ n ih =>
  obtain ⟨es,h1,h2⟩:=ih fun i hi=>h i (by omega)
  obtain ⟨e,he⟩:=h n (by omega);refine ⟨es ++ [e],by simp [h1],fun k e' hk=>?_⟩
  rcases Nat.lt_or_ge k es.length with hlt | hge
  ·rw [List.getElem?_append_left hlt] at hk;exact h2 k e' hk
  ·rw [List.getElem?_append_right hge] at hk
   rcases Nat.eq_or_lt_of_le hge with h0 | h0
   ·rw [show k - es.length = 0 by omega] at hk
    simp at hk
    subst hk;rw [<- h0,h1];exact he
   ·rw [List.getElem?_eq_none (by simp;omega)] at hk
    cases hk
theorem Zsi {z : Int} (h : (Lit.int .u32 z).wf = true) : 0 <= z /\ z <= 4294967295:=by
 simp only [Lit.wf,Bool.and_eq_true,decide_eq_true_eq] at h;exact h
theorem Zjw {w : World} {a : Addr} {v : Value} (h : w.cell? a = some v) : a = ⟨a.block,a.off,none⟩:=by
 obtain ⟨b,o,s⟩:=a
 cases s with
 | none=>rfl
 | some s =>
  exfalso
  unfold World.cell? at h
  simp at h
  split at h <;> simp at h
section
variable {H : Type} {enc : TypeId × Value -> H} {w : World} {base : Nat} {spare : Nat -> Bool} {held : Bool}
theorem Ztp {fuel : Nat} {cs : List Value} {x : DataW H × List MemPlace} (h : DataW.trod enc Try.prog w base spare held fuel 24 cs = some x) : ∃ (A : Option Addr) (n c : Nat) (l : List Nat),cs = [.slice A n c] /\ Lim w A n c l:=by
 rcases open_ints Try.underlying24 Try.underlying71 (by kernel_rfl) h with ⟨rfl,_⟩ | ⟨a,len,cap,zs,rfl,_,hl,hm,hz,_,hcell,hwf⟩
 ·exact ⟨none,0,0,[],rfl,Lim.nil _ _ _ (Nat.zero_le _)⟩
 ·have hlz : len <= zs.length:=by rw [hz];split <;> omega
  refine ⟨some a,len,cap,(zs.take len).map Int.toNat,rfl,by simp;omega,hl,hm,fun v hv=>?_,fun hn=>?_⟩
  ·obtain ⟨z,hz1,rfl⟩:=List.mem_map.1 hv
   have:=Zsi (hwf z (List.mem_of_mem_take hz1));omega
  ·have h0:=hcell 0 (by omega)
   have hp:=Zjw h0
   obtain ⟨b,o,s⟩ : ∃ b o,a = ⟨b,o,none⟩:=by
    obtain ⟨b,o,s⟩:=a;refine ⟨b,o,?_⟩;unfold Addr.add at hp
    split at hp <;> simp_all
   subst s;refine ⟨b,o,rfl,fun k hk=>?_⟩;have hc:=hcell k (by omega);rw [Zj] at hc;rw [hc]
   have hkz : k < zs.length:=by omega
   have hw:=Zsi (hwf zs[k] (List.getElem_mem hkz));rw [List.getElem?_map,List.getElem?_take,if_pos hk,List.getElem?_eq_getElem hkz,List.getD_eq_getElem?_getD,List.getElem?_eq_getElem hkz]
   simp [limb]
   omega
theorem Zjj {r : Reach} {b0 : Nat} {v : Value} {d : DataW H} {p : List MemPlace} (hv : Value.okWide Try.prog w r b0 22 v) (h : DataW.Trod enc Try.prog w base spare held 22 v d p) :
    ∃ (A : Option Addr) (n c : Nat) (es : List WE),v = .slice A n c /\ WL w A n c es:=by
 obtain ⟨A,n,c,rfl⟩:=okWide_slice Try.underlying22 hv;obtain ⟨fuel,hf⟩:=h
 rcases Zhs Try.underlying22 Try.underlying26 (by kernel_rfl) (by kernel_rfl) hf with ⟨hcs,_⟩ | ⟨a,len,cap,m,D,Pl,hcs,_,hl,hm,hmm,_,hi⟩
 ·simp [Value.cells] at hcs
  obtain ⟨rfl,rfl,rfl⟩:=hcs;exact ⟨none,0,0,[],rfl,WL.nil _ _ _ (Nat.zero_le _)⟩
 ·simp [Value.cells] at hcs
  obtain ⟨rfl,rfl,rfl⟩:=hcs
  have hlm : n <= m:=by rw [hmm];split <;> omega
  obtain ⟨es,he1,he2⟩:=list_of (fun i (e : WE)=>w.cell? (a.add (i * 2 + 0)) = some (.bool e.neg) /\ w.cell? (a.add (i * 2 + 1)) = some (.slice e.A e.n e.c) /\ Lim w e.A e.n e.c e.l) n (fun i hin=>by
   obtain ⟨ys,n',_,_,_,hfl⟩:=hi i (by omega);obtain ⟨v0,y0,hc0,_,ht0⟩:=hfl 0 _ rfl;obtain ⟨v1,y1,hc1,_,ht1⟩:=hfl 1 _ rfl;obtain ⟨b,hb,_⟩:=DataW.trod_bool Try.underlying4 ht0;obtain ⟨A1,n1,c1,l1,hA1,hL1⟩:=Ztp ht1
   have e0 : v0 = .bool b:=by simpa using hb
   have e1 : v1 = .slice A1 n1 c1:=by simpa using hA1
   subst e0 e1
   exact ⟨⟨b,A1,n1,c1,l1⟩,hc0,hc1,hL1⟩)
  refine ⟨some a,n,c,es,rfl,he1,hl,hm,fun hn=>?_,fun e he=>?_⟩
  ·obtain ⟨b,o,rfl⟩ : ∃ b o,a = ⟨b,o,none⟩:=by
     have h0:=he2 0 _ (List.getElem?_eq_getElem (by omega));have hp:=Zjw h0.1;obtain ⟨b,o,s⟩:=a;refine ⟨b,o,?_⟩;unfold Addr.add at hp
     split at hp <;> simp_all
   refine ⟨b,o,rfl,fun k e hk=>?_⟩;have h0:=he2 k e hk;rw [Zj,Zj] at h0;exact ⟨h0.1,by rw [Nat.add_assoc];exact h0.2.1⟩
  ·obtain ⟨k,hk,rfl⟩:=List.getElem_of_mem he
   exact (he2 k _ (List.getElem?_eq_getElem hk)).2.2
end
end Go.Proofs.Ythappeninglakaa
