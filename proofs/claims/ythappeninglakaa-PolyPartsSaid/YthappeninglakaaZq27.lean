/- The reference's Cleared, of zeros alone. The reference of -/
import Derived.Deep.CutBlock
import Derived.Deep.DeepCutAuto
import Derived.Test.YthappeninglakaaZq26
set_option maxRecDepth 100000
set_option maxHeartbeats 8000000
set_option linter.unusedSimpArgs false
set_option linter.unusedVariables false
namespace Go.Proofs.Ythappeninglakaa
open Go.RowKit
attribute [local go_sem] Zj
theorem Zsq {w : World} {A : Option Addr} {n c : Nat} (h : FL w A n c (List.replicate n 0)) {k : Nat} (hk : k < n) : ∃ g o na A' n' c' nb B' m' d',A = some ⟨g,o,none⟩ /\ w.cell? ⟨g,o + k * 4,none⟩ = some (.bool na) /\ w.cell? ⟨g,o + k * 4 + 1,none⟩ = some (.slice A' n' c') /\ w.cell? ⟨g,o + k * 4 + 2,none⟩ = some (.bool nb) /\ w.cell? ⟨g,o + k * 4 + 3,none⟩ = some (.slice B' m' d') /\ Wd w na A' n' c' 0 /\ Wd w nb B' m' d' 1:=by
 obtain ⟨es,e1,e2,e3,e4,e5,e6⟩:=h;obtain ⟨g,o,rfl,hc⟩:=e6 (by omega);obtain ⟨x,hx⟩ : ∃ x,es[k]? = some x:=⟨_,List.getElem?_eq_getElem (by omega)⟩;obtain ⟨p0,p1,p2,p3⟩:=hc k x hx;rw [<- Nat.add_assoc] at p1 p2 p3
 have hxq : x.q = 0:=by
  have h1 : (es.map FE.q)[k]? = some x.q:=by rw [List.getElem?_map,hx];rfl
  rw [e5,List.getElem?_replicate,if_pos hk] at h1
  injection h1 with h1
  exact h1.symm
 have h1:=e4 x (List.mem_of_getElem? hx);unfold FE.in_ at h1;rw [hxq] at h1;exact ⟨g,o,_,_,_,_,_,_,_,_,rfl,p0,p1,p2,p3,h1.1,h1.2⟩
theorem Zqc {w : World} {A : Option Addr} {n c : Nat} {qs : List Rat} (h : FL w A n c qs) : n <= c /\ c <= maxLen:=by obtain ⟨es,e1,e2,e3,-⟩:=h;exact ⟨e2,e3⟩
theorem gcd11 (na nb : Bool) (A B : Option Addr) (n c m d : Nat) (w : World) (ha : Wd w na A n c 1) (hb : Wd w nb B m d 1) :
    Calls Try.prog 65 #[.agg #[.bool na,.slice A n c],.agg #[.bool nb,.slice B m d]] w fun e w'=>Below w.heap.size w w' /\ ∃ neg A n c,e = .returned (.tuple #[.agg #[.bool neg,.slice A n c],.int .i64 0]) /\ Wd w' neg A n c 1:=
 (Zmd na nb A B n c m d 1 1 w ha hb).mono fun e w' h=>by
  obtain ⟨h1,neg,A,n,c,code,rfl,hR⟩:=h;rw [show ((Nat.gcd (1 : Int).natAbs (1 : Int).natAbs : Nat) : Int) = 1 by decide] at hR;obtain rfl:=hR.code0 (Zcz (by decide));exact ⟨h1,neg,A,n,c,rfl,hR.small (Zcz (by decide))⟩
theorem Zni (n : Nat) : Zf (List.replicate n 0) = []:=by
 induction n with
 | zero=>rfl
 | succ n ih=>rw [List.replicate_succ];simp only [Zf,ih];rfl
theorem Zpr (na nb : Bool) (A B : Option Addr) (n c m d : Nat) (w : World) (ha : Wd w na A n c 1) (hb : Wd w nb B m d 1) :
    Calls Try.prog 52 #[.agg #[.bool na,.slice A n c],.agg #[.bool nb,.slice B m d]] w fun e w'=>Below w.heap.size w w' /\ ∃ nq Aq kq cq nr Ar kr cr,e = .returned (.tuple #[.agg #[.bool nq,.slice Aq kq cq],.agg #[.bool nr,.slice Ar kr cr],.int .i64 0]) /\ Wd w' nq Aq kq cq 1 /\ Wd w' nr Ar kr cr 0:=by
 have h:=Zfk na nb A B n c m d 1 1 w ha hb (by decide);unfold Zg3 at h;rw [show Int.fdiv 1 1 = 1 by decide,show Int.fmod 1 1 = 0 by decide] at h;exact h
theorem Zmk (na nb : Bool) (A B : Option Addr) (n c m d : Nat) (x y z : Int) (hz : x * y = z) (hs : z.natAbs <= 9223372036854775808) (w : World) (ha : Wd w na A n c x) (hb : Wd w nb B m d y) :
    Calls Try.prog 49 #[.agg #[.bool na,.slice A n c],.agg #[.bool nb,.slice B m d]] w fun e w'=>Below w.heap.size w w' /\ ∃ neg A n c,e = .returned (.tuple #[.agg #[.bool neg,.slice A n c],.int .i64 0]) /\ Wd w' neg A n c z:=
 (Zdf na nb A B n c m d x y w ha hb).mono fun e w' h=>by
  obtain ⟨h1,neg,A,n,c,code,rfl,hR⟩:=h;rw [hz] at hR;obtain rfl:=hR.code0 (Zcz hs);exact ⟨h1,neg,A,n,c,rfl,hR.small (Zcz hs)⟩
def T1 (z : Int) (v : Value) (w : World) : Prop:=∃ na A n c,v = .tuple #[.agg #[.bool na,.slice A n c],.int .i64 0] /\ Wd w na A n c z
def T2 (z y : Int) (v : Value) (w : World) : Prop:=∃ na A n c nb B m d,v = .tuple #[.agg #[.bool na,.slice A n c],.agg #[.bool nb,.slice B m d],.int .i64 0] /\ Wd w na A n c z /\ Wd w nb B m d y
def N1 (z : Int) (v : Value) (w : World) : Prop:=∃ na A n c,v = .agg #[.bool na,.slice A n c] /\ Wd w na A n c z
def NewW (B0 : Nat) (v : Value) (w : World) : Prop:=∃ g,v = .pointer (some ⟨g,0,none⟩) /\ B0 <= g /\ Blk w g 26 #[.bool false,.slice none 0 0]
def Zl (B0 : Nat) (T : Value -> World -> Prop) (z y : Int) (ca mv x0 x1 er al al1 : Nat) (i : Nat) (v : Value) (w : World) : Prop:=
 if i = ca \/ i = mv then T v w else if i = x0 then N1 z v w else if i = x1 then N1 y v w else if i = er then v = .int .i64 0 else if i = al \/ i = al1 then NewW B0 v w else True
section
variable {v : Value} {w w' : World} {z y : Int} {B0 : Nat}
theorem T1.stays (hb : Below w.heap.size w w') (h : T1 z v w) : T1 z v w':=by obtain ⟨na,A,n,c,e,h1⟩:=h;exact ⟨na,A,n,c,e,h1.below hb⟩
theorem T2.stays (hb : Below w.heap.size w w') (h : T2 z y v w) : T2 z y v w':=by obtain ⟨na,A,n,c,nb,B,m,d,e,h1,h2⟩:=h;exact ⟨na,A,n,c,nb,B,m,d,e,h1.below hb,h2.below hb⟩
theorem N1.stays (hb : Below w.heap.size w w') (h : N1 z v w) : N1 z v w':=by obtain ⟨na,A,n,c,e,h1⟩:=h;exact ⟨na,A,n,c,e,h1.below hb⟩
theorem NewW.stays (hb : Below w.heap.size w w') (h : NewW B0 v w) : NewW B0 v w':=by obtain ⟨g,e,h1,h2⟩:=h;exact ⟨g,e,h1,Zd hb h2⟩
theorem NewW.ne (h : NewW B0 v w) : Value.pointer (some ⟨w.heap.size,0,none⟩) ≠ v:=by
 obtain ⟨g,rfl,-,h2⟩:=h;intro h
 injection h with h
 injection h with h
 injection h with h
 have:=h2.lt;omega
theorem Zba {T : Value -> World -> Prop} (hT : ∀ v w w',Below w.heap.size w w' -> T v w -> T v w') {ca mv x0 x1 er al al1 i : Nat} (hb : Below w.heap.size w w') (h : Zl B0 T z y ca mv x0 x1 er al al1 i v w) : Zl B0 T z y ca mv x0 x1 er al al1 i v w':=by
 unfold Zl at h ⊢
 split at h
 ·rename_i h1;rw [if_pos h1];exact hT _ _ _ hb h
 ·rename_i h1;rw [if_neg h1]
  split at h
  ·rename_i h2;rw [if_pos h2];exact h.stays hb
  ·rename_i h2;rw [if_neg h2]
   split at h
   ·rename_i h3;rw [if_pos h3];exact h.stays hb
   ·rename_i h3;rw [if_neg h3]
    split at h
    ·rename_i h4;rw [if_pos h4];exact h
    ·rename_i h4;rw [if_neg h4]
     split at h
     ·rename_i h5;rw [if_pos h5];exact h.stays hb
     ·rename_i h5;rw [if_neg h5];trivial
end
theorem Zpf : ClearC:=by
 intro A n c w h hn;obtain ⟨iw,hi,hz0,hz1,hz2⟩:=info_parts Zfm
 have hmx : Try.prog.follows .mixedOrders = true:=by kernel_rfl
 obtain ⟨hnc,hcm⟩:=Zqc h;unfold maxLen at hcm;replace h:=Zb h;go_enter Try.func43,Try.ntmps43;go_wp2_with fail;refine (Zdw 1 w (by omega) (by omega)).mono ?_;rintro e w1 ⟨hb1,nb1,B1,m1,d1,rfl,hW1⟩;obtain ⟨X2,hX2,hB2,q2,k2,far2,s2⟩:=Z8 26 #[.bool false,.slice none 0 0] hb1 hb1.size;obtain ⟨X3,hX3,hB3,q3,k3⟩:=Zu nb1 B1 m1 d1 hB2 hb1.size q2;obtain ⟨a0,a1,f0,f1⟩:=q2.two;have hD:=Zb (k3.1 _ _ _ _ _ (k2 _ _ _ _ _ hW1));have hg1 : Hid (w.heap.size <= w1.heap.size):=Zb hb1.size;replace q3:=Zb q3;replace hB3:=Zb hB3;clear k2 far2 hB2 q2 hb1 hW1 k3;go_wp2_with fail;clear a0 a1 f0 f1 hX2 hX3;obtain ⟨gD,hgD⟩ : ∃ g,w1.heap.size = g:=⟨_,rfl⟩;rw [hgD] at q3 hg1 ⊢;clear hgD
 go_loopg [4] n (fun k iv wr=>∃ (i : Nat) (nb : Bool) (B : Option Addr) (m d : Nat),i + k = n /\ iv = .int .i64 i /\ Blk wr gD 26 #[.bool nb,.slice B m d] /\ Wd wr nb B m d 1 /\ Below w.heap.size w wr)
 case atStart=>exact ⟨0,nb1,B1,m1,d1,by omega,rfl,q3.out,hD.out,hB3.out⟩
 case round =>
  clear q3 hD hB3;obtain ⟨i,nb,B,m,d,hik,rfl,qd,hWd,hB⟩:=hrel
  cases gk with
  | zero =>
   obtain rfl : i = n:=by omega
   have tge : decide ((i : Int) < (i : Int)) = false:=by simp
   replace qd:=Zb qd;replace hWd:=Zb hWd;replace hB:=Zb hB;go_wp2_with fail
   go_loopg [10,11] i (fun k ov jv wr=>∃ j : Nat,j + k = i /\ jv = .int .i64 j /\ OwnP 26 wr (gD + 1) ov (List.replicate j 0) /\ Blk wr gD 26 #[.bool nb,.slice B m d] /\ Wd wr nb B m d 1 /\ Below w.heap.size w wr)
   case atStart=>exact ⟨0,by omega,rfl,OwnP.nil _ _ _,qd.out,hWd.out,hB.out⟩
   case round =>
    clear qd hWd hB;obtain ⟨j,hjk,rfl,hown,qd,hWd,hB⟩:=hrel
    cases gk with
    | zero =>
     obtain rfl : j = i:=by omega
     have tge2 : decide ((j : Int) < (j : Int)) = false:=by simp
     obtain ⟨A3,c3,rfl,hP3⟩:=hown.poly;rw [List.length_replicate] at hP3 ⊢;clear hown qd hWd;go_wp2_with fail;refine (Zlo _ _ _ _ _ hP3 (by omega)).mono ?_;rintro e w4 ⟨A4,n4,c4,rfl,hP4,hb4⟩;rw [Zni] at hP4;obtain rfl : n4 = 0:=hP4.len.symm;have hB4:=hB.trans (hb4.mono hB.size);have t00 : decide ((0 : Int) < (0 : Int)) = false:=rfl;have t01 : decide ((0 : Int) > (0 : Int)) = false:=rfl;go_wp2_with fail;refine (Zr9 A4 c4 w4).mono ?_;rintro e w5 ⟨hb5,rfl⟩;have hB5:=hB4.trans (hb5.mono hB4.size);go_wp2_with fail
     go_loopg [18] 0 (fun k jv wr=>jv = .int .i64 0 /\ wr = w5)
     case atStart=>exact ⟨rfl,rfl⟩
     case round =>
      obtain ⟨rfl,rfl⟩:=hrel;go_wp2_with fail;go_ret;exact ⟨hB5,_,_,rfl⟩
    | succ gk' =>
     obtain rfl : gk' = i - (j + 1):=by omega
     have hin : j < i:=by omega
     have tlt : decide ((j : Int) < (i : Int)) = true:=by simp;omega
     have bI : (j : Int) < (i : Int):=by omega
     obtain ⟨b,o,na,A1,n1,c1,nB,B2,m2,d2,rfl,p0,p1,p2,p3,hNum,hDen⟩:=Zsq h.out hin;replace p0:=Za hB p0;replace p1:=Za hB p1;replace p2:=Za hB p2;replace p3:=Za hB p3;replace hDen:=hDen.below hB;replace hNum:=Zb (hNum.below hB);replace hown:=Zb hown;obtain ⟨x0,x1,y0,y1⟩:=qd.two;go_wp2_with fail;have hSv1 : Hid (∀ wx,Below wr.heap.size wr wx -> wx.cell? ⟨gD,0,none⟩ = some (.bool nb) /\ wx.cell? ⟨gD,1,none⟩ = some (.slice B m d) /\ wx.cell? ⟨b,o + j * 4 + 2,none⟩ = some (.bool nB) /\ wx.cell? ⟨b,o + j * 4 + 3,none⟩ = some (.slice B2 m2 d2)):=Zb (fun wx hbx=>⟨Za hbx x0,Za hbx x1,Za hbx p2,Za hbx p3⟩);have hr1 : Below wr.heap.size wr wr.drew:=Zr (Below.refl _ _) 1;refine wp_heldS [] hmx hSv1 hr1 (fun hxs1=>?_);refine Zt2 6 [0,1,2,3,4,5] rfl (by kernel_rfl) (hSv1.out _ hr1) ?_
     iterate 6 (refine tkA ?_;try simp only [Act.put,putL_a,putL_z,putL_s,putG_a,putG_s,putG_z])
     refine tk0 ?_;refine Za0 [(11,12),(12,13)] [(6,66),(7,59),(11,12),(12,13)] (fun i=>match i with | 7=>[8,9,10] | _=>[]) [(6,66),(7,59),(8,67),(9,68),(10,69),(11,12),(12,13)] (Zl wr.heap.size (T2 1 0) 1 0 6 7 8 9 10 11 12) 3 (by kernel_rfl) (fun _ _ _ _ _ hb h=>Zba (fun _ _ _=>T2.stays) hb h) (fun wx h=>hSv1.out _ (hr1.trans (h.mono hr1.size))) ?hop1 ?hfin1
     case hop1 =>
      intro p hp;simp only [List.mem_cons,List.not_mem_nil,or_false] at hp;simp only [List.map_cons,List.map_nil,Zae,Act.put,putL_a,putL_z,putL_s]
      rcases hp with rfl | rfl | rfl | rfl
      ·intro ν wx hb hP
       have hbx:=hr1.trans (hb.mono hr1.size);refine Zo (i:=6) rfl (fun K hK=>?_);go_simp;refine (Zpr nb nB B B2 m d m2 d2 wx (hWd.below hbx) (hDen.below hbx)).mono ?_;rintro e w5 ⟨hb5,na5,A5,k5,c5,nb5,B5,m5,d5,rfl,hf5,hg5⟩;exact hK.out _ _ ⟨_,rfl,(by simp only [Zl];exact ⟨_,_,_,_,_,_,_,_,rfl,hf5,hg5⟩),hb5,trivial,fun h=>by simp at h⟩
      ·intro ν wx hb hP
       have h0:=hP (6,66) (by simp) (by kernel_rfl);simp only [Zl] at h0;obtain ⟨na5,A5,k5,c5,nb5,B5,m5,d5,hν,hf5,hg5⟩:=h0;rw [hν];refine Zo (i:=7) rfl (fun K hK=>?_);go_simp;refine hK.out _ _ ⟨_,rfl,(by simp only [Zl];exact ⟨_,_,_,_,_,_,_,_,rfl,hf5,hg5⟩),Below.refl _ _,?_,fun h=>by simp at h⟩;exact ⟨_,.agg #[.bool na5,.slice A5 k5 c5],rfl,Or.inl ⟨by kernel_rfl,fun W2 _=>by go_simp⟩,(by simp only [Zl];exact ⟨_,_,_,_,rfl,hf5⟩),⟨_,.agg #[.bool nb5,.slice B5 m5 d5],rfl,Or.inl ⟨by kernel_rfl,fun W2 _=>by go_simp⟩,(by simp only [Zl];exact ⟨_,_,_,_,rfl,hg5⟩),⟨_,.int .i64 0,rfl,Or.inl ⟨by kernel_rfl,fun W2 _=>by go_simp⟩,by simp [Zl],trivial⟩⟩⟩
      ·intro ν wx hb hP
       refine Zo (i:=11) rfl (fun K hK=>?_);go_simp
       exact hK.out _ _ ⟨_,rfl,(by simp only [Zl];exact ⟨_,rfl,hb.size,Blk.new _ _ _⟩),(Below.refl _ _).alloc (Nat.le_refl _) _,trivial,(fun _ q hq u hu=>by
        simp only [List.mem_cons,List.not_mem_nil,or_false] at hq
        rcases hq with rfl | rfl <;> (simp only [Zl] at hu;exact NewW.ne hu))⟩
      ·intro ν wx hb hP
       refine Zo (i:=12) rfl (fun K hK=>?_);go_simp
       exact hK.out _ _ ⟨_,rfl,(by simp only [Zl];exact ⟨_,rfl,hb.size,Blk.new _ _ _⟩),(Below.refl _ _).alloc (Nat.le_refl _) _,trivial,(fun _ q hq u hu=>by
        simp only [List.mem_cons,List.not_mem_nil,or_false] at hq
        rcases hq with rfl | rfl <;> (simp only [Zl] at hu;exact NewW.ne hu))⟩
     case hfin1 =>
      intro ν wx hb hP hNE;have h0:=hP (6,66) (by simp);have h1:=hP (7,59) (by simp);have h3:=hP (10,69) (by simp);have hx0:=hP (8,67) (by simp);have hx1:=hP (9,68) (by simp);have ha0:=hP (11,12) (by simp);have ha1:=hP (12,13) (by simp);simp only [Zl] at h0 h1 hx0 ha0 hx1 ha1;obtain ⟨a0,a1,a2,a3,a4,a5,a6,a7,h0,-,-⟩:=h0;obtain ⟨e0,e1,e2,e3,e4,e5,e6,e7,h1,-,-⟩:=h1;obtain ⟨q0n,q0A,q0k,q0c,hx0,q0f⟩:=hx0;obtain ⟨gq0,ha0,kv0,qv0⟩:=ha0;obtain ⟨q1n,q1A,q1k,q1c,hx1,q1f⟩:=hx1;obtain ⟨gq1,ha1,kv1,qv1⟩:=ha1
      have hgne : gq0 ≠ gq1:=fun h=>by
       refine hNE (11,12) (by simp) (12,13) (by simp) (by simp) ?_;rw [ha0,ha1,h]
      simp only [List.map_cons,List.map_nil,Zae,Act.put,putL_a,putL_z,putL_s];rw [h0,h1,hx0,hx1,(show ν 69 = Value.int .i64 0 by simpa [Zl] using h3),ha0,ha1];clear h0 h1 h3 hx0 ha0 hx1 ha1 hP ν hNE;have hbx:=hr1.trans (hb.mono hr1.size);obtain ⟨f00,f10,f20,f30⟩:=qv0.two;obtain ⟨Zq0,hZ0,hbZq0,qZ0,kZ0⟩:=Zu q0n q0A q0k q0c hbx kv0 qv0;replace qv1:=kZ0.2.1 _ _ _ hgne.symm qv1
      refine wpAnyL_o 13 fun K hK=>?_
      go_simp;(try rw [hZ0]);refine hK.out _ _ (fun _=>hSv1.out _ hbZq0) ?_;clear hK K hZ0 f00 f10 f20 f30
      try simp only [Act.put,putL_a,putL_z,putL_s]
      obtain ⟨f01,f11,f21,f31⟩:=qv1.two;obtain ⟨Zq1,hZ1,hbZq1,qZ1,kZ1⟩:=Zu q1n q1A q1k q1c hbZq0 kv1 qv1
      refine wpAnyL_o 14 fun K hK=>?_
      go_simp;(try rw [hZ1]);refine hK.out _ _ (fun _=>hSv1.out _ hbZq1) ?_;clear hK K hZ1 f01 f11 f21 f31
      try simp only [Act.put,putL_a,putL_z,putL_s]
      refine Zt1 1 [15] rfl (by kernel_rfl) (hSv1.out _ hbZq1) ?_
      (refine tkA ?_;try simp only [Act.put,putL_a,putL_z,putL_s,putG_a,putG_s,putG_z])
      refine tk0 ?_;refine wpAnyL_fin ?_;have q0b:=Zb (kZ1.2.1 _ _ _ hgne qZ0);have q1b:=Zb qZ1;replace q0f:=Zb (kZ1.1 _ _ _ _ _ (kZ0.1 _ _ _ _ _ q0f));clear kZ0 kZ1 qZ0 qZ1 kv0 kv1 hbx hb hr1 hSv1 hxs1 hbZq0;replace qd:=Zb (Zd hbZq1 qd);replace hWd:=Zb (hWd.below hbZq1);replace hown:=Zb (hown.out.kept hbZq1);replace hNum:=hNum.out.below hbZq1;replace p0:=Za hbZq1 p0;replace p1:=Za hbZq1 p1;obtain ⟨u0,u1,-,-⟩:=q0b.out.two;replace hB:=hB.trans (hbZq1.mono hB.size);clear x0 x1 y0 y1 p2 p3 hDen hbZq1 q1b q1f;go_wp2_with fail;have hSv2 : Hid (∀ wx,Below Zq1.heap.size Zq1 wx -> wx.cell? ⟨gq0,0,none⟩ = some (.bool q0n) /\ wx.cell? ⟨gq0,1,none⟩ = some (.slice q0A q0k q0c) /\ wx.cell? ⟨b,o + j * 4,none⟩ = some (.bool na) /\ wx.cell? ⟨b,o + j * 4 + 1,none⟩ = some (.slice A1 n1 c1)):=Zb (fun wx hbx=>⟨Za hbx u0,Za hbx u1,Za hbx p0,Za hbx p1⟩);have hr2 : Below Zq1.heap.size Zq1 Zq1.drew:=Zr (Below.refl _ _) 1;refine wp_heldS [] hmx hSv2 hr2 (fun hxs2=>?_);refine Zt2 6 [0,1,2,3,4,5] rfl (by kernel_rfl) (hSv2.out _ hr2) ?_
      iterate 6 (refine tkA ?_;try simp only [Act.put,putL_a,putL_z,putL_s,putG_a,putG_s,putG_z])
      refine tk0 ?_;refine Za0 ([] : List (Nat × Nat)) [(6,77),(7,70),(10,15)] (fun i=>match i with | 7=>[8,9] | _=>[]) [(6,77),(7,70),(8,78),(9,79),(10,15)] (Zl Zq1.heap.size (T1 0) 0 0 6 7 8 1000 9 10 1001) 2 (by kernel_rfl) (fun _ _ _ _ _ hb h=>Zba (fun _ _ _=>T1.stays) hb h) (fun wx h=>hSv2.out _ (hr2.trans (h.mono hr2.size))) ?hop2 ?hfin2
      case hop2 =>
       intro p hp;simp only [List.mem_cons,List.not_mem_nil,or_false] at hp;simp only [List.map_cons,List.map_nil,Zae,Act.put,putL_a,putL_z,putL_s]
       rcases hp with rfl | rfl | rfl
       ·intro ν wx hb hP
        have hbx:=hr2.trans (hb.mono hr2.size);refine Zo (i:=6) rfl (fun K hK=>?_);go_simp;refine (Zmk q0n na q0A A1 q0k q0c n1 c1 1 0 0 rfl (by decide) wx (q0f.below hbx) (hNum.below hbx)).mono ?_;rintro e w5 ⟨hb5,na5,A5,k5,c5,rfl,hf5⟩;exact hK.out _ _ ⟨_,rfl,(by simp only [Zl];exact ⟨_,_,_,_,rfl,hf5⟩),hb5,trivial,fun h=>by simp at h⟩
       ·intro ν wx hb hP
        have h0:=hP (6,77) (by simp) (by kernel_rfl);simp only [Zl] at h0;obtain ⟨na5,A5,k5,c5,hν,hf5⟩:=h0;rw [hν];refine Zo (i:=7) rfl (fun K hK=>?_);go_simp;refine hK.out _ _ ⟨_,rfl,(by simp only [Zl];exact ⟨_,_,_,_,rfl,hf5⟩),Below.refl _ _,?_,fun h=>by simp at h⟩;exact ⟨_,.agg #[.bool na5,.slice A5 k5 c5],rfl,Or.inl ⟨by kernel_rfl,fun W2 _=>by go_simp⟩,(by simp only [Zl];exact ⟨_,_,_,_,rfl,hf5⟩),⟨_,.int .i64 0,rfl,Or.inl ⟨by kernel_rfl,fun W2 _=>by go_simp⟩,by simp [Zl],trivial⟩⟩
       ·intro ν wx hb hP
        refine Zo (i:=10) rfl (fun K hK=>?_);go_simp;exact hK.out _ _ ⟨_,rfl,(by simp only [Zl];exact ⟨_,rfl,hb.size,Blk.new _ _ _⟩),(Below.refl _ _).alloc (Nat.le_refl _) _,trivial,(fun h=>by simp at h)⟩
      case hfin2 =>
       intro ν wx hb hP hNE;have h0:=hP (6,77) (by simp);have h1:=hP (7,70) (by simp);have h3:=hP (9,79) (by simp);have hx0:=hP (8,78) (by simp);have ha0:=hP (10,15) (by simp);simp only [Zl] at h0 h1 hx0 ha0;obtain ⟨a0,a1,a2,a3,h0,-⟩:=h0;obtain ⟨e0,e1,e2,e3,h1,-⟩:=h1;obtain ⟨e0n,e0A,e0k,e0c,hx0,e0f⟩:=hx0;obtain ⟨ge0,ha0,kv0,qv0⟩:=ha0;simp only [List.map_cons,List.map_nil,Zae,Act.put,putL_a,putL_z,putL_s];rw [h0,h1,hx0,(show ν 79 = Value.int .i64 0 by simpa [Zl] using h3),ha0];clear h0 h1 h3 hx0 ha0 hP ν hNE;have hbx:=hr2.trans (hb.mono hr2.size);obtain ⟨f00,f10,f20,f30⟩:=qv0.two;obtain ⟨Ze0,hZ0,hbZe0,qZ0,kZ0⟩:=Zu e0n e0A e0k e0c hbx kv0 qv0
       refine wpAnyL_o 11 fun K hK=>?_
       go_simp;(try rw [hZ0]);refine hK.out _ _ (fun _=>hSv2.out _ hbZe0) ?_;clear hK K hZ0 f00 f10 f20 f30
       try simp only [Act.put,putL_a,putL_z,putL_s]
       refine Zt1 1 [12] rfl (by kernel_rfl) (hSv2.out _ hbZe0) ?_
       (refine tkA ?_;try simp only [Act.put,putL_a,putL_z,putL_s,putG_a,putG_s,putG_z])
       refine tk0 ?_;refine wpAnyL_fin ?_;have e0b:=Zb qZ0;replace e0f:=Zb (kZ0.1 _ _ _ _ _ e0f);clear kZ0 qZ0 hbx hb hr2 hSv2 hxs2;replace qd:=Zb (Zd hbZe0 qd.out);replace hWd:=Zb (hWd.out.below hbZe0);replace hown:=hown.out.kept hbZe0;replace hB:=hB.trans (hbZe0.mono hB.size);obtain ⟨u2,u3,-,-⟩:=e0b.out.two;have hsB:=hB.size;have hgDl:=qd.out.lt;clear u0 u1 p0 p1 hNum hbZe0 q0b q0f;go_wp2_with (at_builtin;refine Zaa _ rfl (.tmp 80) (.tmp 82) 22 rfl (gD + 1) 26 iw Try.underlying22 hi hz0 hz1 hz2 _ _ rfl (by exact hown.alloc _) _ _ 1 1 [⟨e0n,e0A,e0k,e0c,digits (0 : Int).natAbs⟩] rfl (Zdu _ _ _ _ _ _ _) rfl (List.forall_mem_singleton.2 ⟨e0f.2.2.alloc _,e0f.ok⟩) (by rw [List.length_replicate];omega) (by simp;omega) ?_;intro v7 w7 hown7 hg7 hk7);have hB7 : Below (gD + 1) Ze0 w7:=((Below.refl (gD + 1) Ze0).alloc (by omega) _).grown hg7 (by simp;omega) hown.row_ge;have qd7:=(hB7.block gD (Nat.lt_succ_self _)).trans qd.out;have hWd7 : Wd w7 nb B m d 1:=⟨hWd.out.1,hWd.out.2.1,hk7 _ _ _ _ (hWd.out.2.2.alloc _)⟩;have hB8:=hB.trans (hB7.mono (by have:=hg1.out;omega));have hown8:=hown7.snoc e0f;rw [show List.replicate j (0 : Int) ++ [0] = List.replicate (j + 1) 0 from (List.replicate_succ' ..).symm] at hown8
       go_roundg (i - (j + 1))
       case measure=>omega
       case rel=>exact ⟨j + 1,by omega,by go_num,hown8,qd7,hWd7,hB8⟩
  | succ gk' =>
   obtain rfl : gk' = n - (i + 1):=by omega
   have hin : i < n:=by omega
   have tlt : decide ((i : Int) < (n : Int)) = true:=by simp;omega
   have bI : (i : Int) < (n : Int):=by omega
   obtain ⟨b,o,na,A1,n1,c1,nB,B2,m2,d2,rfl,p0,p1,p2,p3,hNum,hDen⟩:=Zsq h.out hin;replace p2:=Za hB p2;replace p3:=Za hB p3;replace hDen:=hDen.below hB;obtain ⟨x0,x1,y0,y1⟩:=qd.two;clear p0 p1 hNum;go_wp2_with fail;have hSv3 : Hid (∀ wx,Below wr.heap.size wr wx -> wx.cell? ⟨gD,0,none⟩ = some (.bool nb) /\ wx.cell? ⟨gD,1,none⟩ = some (.slice B m d) /\ wx.cell? ⟨b,o + i * 4 + 2,none⟩ = some (.bool nB) /\ wx.cell? ⟨b,o + i * 4 + 3,none⟩ = some (.slice B2 m2 d2)):=Zb (fun wx hbx=>⟨Za hbx x0,Za hbx x1,Za hbx p2,Za hbx p3⟩);have hr3 : Below wr.heap.size wr wr.drew:=Zr (Below.refl _ _) 1;refine wp_heldS [] hmx hSv3 hr3 (fun hxs3=>?_);refine Zt2 6 [0,1,2,3,4,5] rfl (by kernel_rfl) (hSv3.out _ hr3) ?_
   iterate 6 (refine tkA ?_;try simp only [Act.put,putL_a,putL_z,putL_s,putG_a,putG_s,putG_z])
   refine tk0 ?_;refine Za0 ([] : List (Nat × Nat)) [(6,33),(7,26),(10,5)] (fun i=>match i with | 7=>[8,9] | _=>[]) [(6,33),(7,26),(8,34),(9,35),(10,5)] (Zl wr.heap.size (T1 1) 1 0 6 7 8 1000 9 10 1001) 2 (by kernel_rfl) (fun _ _ _ _ _ hb h=>Zba (fun _ _ _=>T1.stays) hb h) (fun wx h=>hSv3.out _ (hr3.trans (h.mono hr3.size))) ?hop3 ?hfin3
   case hop3 =>
    intro p hp;simp only [List.mem_cons,List.not_mem_nil,or_false] at hp;simp only [List.map_cons,List.map_nil,Zae,Act.put,putL_a,putL_z,putL_s]
    rcases hp with rfl | rfl | rfl
    ·intro ν wx hb hP
     have hbx:=hr3.trans (hb.mono hr3.size);refine Zo (i:=6) rfl (fun K hK=>?_);go_simp;refine (gcd11 nb nB B B2 m d m2 d2 wx (hWd.below hbx) (hDen.below hbx)).mono ?_;rintro e w5 ⟨hb5,na5,A5,k5,c5,rfl,hf5⟩;exact hK.out _ _ ⟨_,rfl,(by simp only [Zl];exact ⟨_,_,_,_,rfl,hf5⟩),hb5,trivial,fun h=>by simp at h⟩
    ·intro ν wx hb hP
     have h0:=hP (6,33) (by simp) (by kernel_rfl);simp only [Zl] at h0;obtain ⟨na5,A5,k5,c5,hν,hf5⟩:=h0;rw [hν];refine Zo (i:=7) rfl (fun K hK=>?_);go_simp;refine hK.out _ _ ⟨_,rfl,(by simp only [Zl];exact ⟨_,_,_,_,rfl,hf5⟩),Below.refl _ _,?_,fun h=>by simp at h⟩;exact ⟨_,.agg #[.bool na5,.slice A5 k5 c5],rfl,Or.inl ⟨by kernel_rfl,fun W2 _=>by go_simp⟩,(by simp only [Zl];exact ⟨_,_,_,_,rfl,hf5⟩),⟨_,.int .i64 0,rfl,Or.inl ⟨by kernel_rfl,fun W2 _=>by go_simp⟩,by simp [Zl],trivial⟩⟩
    ·intro ν wx hb hP
     refine Zo (i:=10) rfl (fun K hK=>?_);go_simp;exact hK.out _ _ ⟨_,rfl,(by simp only [Zl];exact ⟨_,rfl,hb.size,Blk.new _ _ _⟩),(Below.refl _ _).alloc (Nat.le_refl _) _,trivial,(fun h=>by simp at h)⟩
   case hfin3 =>
    intro ν wx hb hP hNE;have h0:=hP (6,33) (by simp);have h1:=hP (7,26) (by simp);have h3:=hP (9,35) (by simp);have hx0:=hP (8,34) (by simp);have ha0:=hP (10,5) (by simp);simp only [Zl] at h0 h1 hx0 ha0;obtain ⟨a0,a1,a2,a3,h0,-⟩:=h0;obtain ⟨e0,e1,e2,e3,h1,-⟩:=h1;obtain ⟨g0n,g0A,g0k,g0c,hx0,g0f⟩:=hx0;obtain ⟨gg0,ha0,kv0,qv0⟩:=ha0;simp only [List.map_cons,List.map_nil,Zae,Act.put,putL_a,putL_z,putL_s];rw [h0,h1,hx0,(show ν 35 = Value.int .i64 0 by simpa [Zl] using h3),ha0];clear h0 h1 h3 hx0 ha0 hP ν hNE;have hbx:=hr3.trans (hb.mono hr3.size);obtain ⟨f00,f10,f20,f30⟩:=qv0.two;obtain ⟨Zg0,hZ0,hbZg0,qZ0,kZ0⟩:=Zu g0n g0A g0k g0c hbx kv0 qv0
    refine wpAnyL_o 11 fun K hK=>?_
    go_simp;(try rw [hZ0]);refine hK.out _ _ (fun _=>hSv3.out _ hbZg0) ?_;clear hK K hZ0 f00 f10 f20 f30
    try simp only [Act.put,putL_a,putL_z,putL_s]
    refine Zt1 1 [12] rfl (by kernel_rfl) (hSv3.out _ hbZg0) ?_
    (refine tkA ?_;try simp only [Act.put,putL_a,putL_z,putL_s,putG_a,putG_s,putG_z])
    refine tk0 ?_;refine wpAnyL_fin ?_;have g0b:=Zb qZ0;replace g0f:=Zb (kZ0.1 _ _ _ _ _ g0f);clear kZ0 qZ0 hbx hb hr3 hSv3 hxs3;have x0':=Za hbZg0 x0;have x1':=Za hbZg0 x1;have p2':=Za hbZg0 p2;have p3':=Za hbZg0 p3;have qd6:=Zb (Zd hbZg0 qd);have hWd6:=Zb (hWd.below hbZg0);have hDen6:=Zb (hDen.below hbZg0);have hB6:=Zb (hB.trans (hbZg0.mono hB.size));obtain ⟨v0,v1,-,-⟩:=g0b.out.two;clear x0 x1 p2 p3 y0 y1 qd hWd hDen hB hbZg0 kv0;go_wp2_with fail;have hSv4 : Hid (∀ wx,Below Zg0.heap.size Zg0 wx -> wx.cell? ⟨gg0,0,none⟩ = some (.bool g0n) /\ wx.cell? ⟨gg0,1,none⟩ = some (.slice g0A g0k g0c) /\ wx.cell? ⟨b,o + i * 4 + 2,none⟩ = some (.bool nB) /\ wx.cell? ⟨b,o + i * 4 + 3,none⟩ = some (.slice B2 m2 d2)):=Zb (fun wx hbx=>⟨Za hbx v0,Za hbx v1,Za hbx p2',Za hbx p3'⟩);have hr4 : Below Zg0.heap.size Zg0 Zg0.drew:=Zr (Below.refl _ _) 1;refine wp_heldS [] hmx hSv4 hr4 (fun hxs4=>?_);refine Zt2 6 [0,1,2,3,4,5] rfl (by kernel_rfl) (hSv4.out _ hr4) ?_
    iterate 6 (refine tkA ?_;try simp only [Act.put,putL_a,putL_z,putL_s,putG_a,putG_s,putG_z])
    refine tk0 ?_;refine Za0 [(11,7),(12,8)] [(6,43),(7,36),(11,7),(12,8)] (fun i=>match i with | 7=>[8,9,10] | _=>[]) [(6,43),(7,36),(8,44),(9,45),(10,46),(11,7),(12,8)] (Zl Zg0.heap.size (T2 1 0) 1 0 6 7 8 9 10 11 12) 3 (by kernel_rfl) (fun _ _ _ _ _ hb h=>Zba (fun _ _ _=>T2.stays) hb h) (fun wx h=>hSv4.out _ (hr4.trans (h.mono hr4.size))) ?hop4 ?hfin4
    case hop4 =>
     intro p hp;simp only [List.mem_cons,List.not_mem_nil,or_false] at hp;simp only [List.map_cons,List.map_nil,Zae,Act.put,putL_a,putL_z,putL_s]
     rcases hp with rfl | rfl | rfl | rfl
     ·intro ν wx hb hP
      have hbx:=hr4.trans (hb.mono hr4.size);refine Zo (i:=6) rfl (fun K hK=>?_);go_simp;refine (Zpr nB g0n B2 g0A m2 d2 g0k g0c wx (hDen6.out.below hbx) (g0f.below hbx)).mono ?_;rintro e w5 ⟨hb5,na5,A5,k5,c5,nb5,B5,m5,d5,rfl,hf5,hg5⟩;exact hK.out _ _ ⟨_,rfl,(by simp only [Zl];exact ⟨_,_,_,_,_,_,_,_,rfl,hf5,hg5⟩),hb5,trivial,fun h=>by simp at h⟩
     ·intro ν wx hb hP
      have h0:=hP (6,43) (by simp) (by kernel_rfl);simp only [Zl] at h0;obtain ⟨na5,A5,k5,c5,nb5,B5,m5,d5,hν,hf5,hg5⟩:=h0;rw [hν];refine Zo (i:=7) rfl (fun K hK=>?_);go_simp;refine hK.out _ _ ⟨_,rfl,(by simp only [Zl];exact ⟨_,_,_,_,_,_,_,_,rfl,hf5,hg5⟩),Below.refl _ _,?_,fun h=>by simp at h⟩;exact ⟨_,.agg #[.bool na5,.slice A5 k5 c5],rfl,Or.inl ⟨by kernel_rfl,fun W2 _=>by go_simp⟩,(by simp only [Zl];exact ⟨_,_,_,_,rfl,hf5⟩),⟨_,.agg #[.bool nb5,.slice B5 m5 d5],rfl,Or.inl ⟨by kernel_rfl,fun W2 _=>by go_simp⟩,(by simp only [Zl];exact ⟨_,_,_,_,rfl,hg5⟩),⟨_,.int .i64 0,rfl,Or.inl ⟨by kernel_rfl,fun W2 _=>by go_simp⟩,by simp [Zl],trivial⟩⟩⟩
     ·intro ν wx hb hP
      refine Zo (i:=11) rfl (fun K hK=>?_);go_simp
      exact hK.out _ _ ⟨_,rfl,(by simp only [Zl];exact ⟨_,rfl,hb.size,Blk.new _ _ _⟩),(Below.refl _ _).alloc (Nat.le_refl _) _,trivial,(fun _ q hq u hu=>by
       simp only [List.mem_cons,List.not_mem_nil,or_false] at hq
       rcases hq with rfl | rfl <;> (simp only [Zl] at hu;exact NewW.ne hu))⟩
     ·intro ν wx hb hP
      refine Zo (i:=12) rfl (fun K hK=>?_);go_simp
      exact hK.out _ _ ⟨_,rfl,(by simp only [Zl];exact ⟨_,rfl,hb.size,Blk.new _ _ _⟩),(Below.refl _ _).alloc (Nat.le_refl _) _,trivial,(fun _ q hq u hu=>by
       simp only [List.mem_cons,List.not_mem_nil,or_false] at hq
       rcases hq with rfl | rfl <;> (simp only [Zl] at hu;exact NewW.ne hu))⟩
    case hfin4 =>
     intro ν wx hb hP hNE;have h0:=hP (6,43) (by simp);have h1:=hP (7,36) (by simp);have h3:=hP (10,46) (by simp);have hx0:=hP (8,44) (by simp);have hx1:=hP (9,45) (by simp);have ha0:=hP (11,7) (by simp);have ha1:=hP (12,8) (by simp);simp only [Zl] at h0 h1 hx0 ha0 hx1 ha1;obtain ⟨a0,a1,a2,a3,a4,a5,a6,a7,h0,-,-⟩:=h0;obtain ⟨e0,e1,e2,e3,e4,e5,e6,e7,h1,-,-⟩:=h1;obtain ⟨q0n,q0A,q0k,q0c,hx0,q0f⟩:=hx0;obtain ⟨gq0,ha0,kv0,qv0⟩:=ha0;obtain ⟨q1n,q1A,q1k,q1c,hx1,q1f⟩:=hx1;obtain ⟨gq1,ha1,kv1,qv1⟩:=ha1
     have hgne : gq0 ≠ gq1:=fun h=>by
      refine hNE (11,7) (by simp) (12,8) (by simp) (by simp) ?_;rw [ha0,ha1,h]
     simp only [List.map_cons,List.map_nil,Zae,Act.put,putL_a,putL_z,putL_s];rw [h0,h1,hx0,hx1,(show ν 46 = Value.int .i64 0 by simpa [Zl] using h3),ha0,ha1];clear h0 h1 h3 hx0 ha0 hx1 ha1 hP ν hNE;have hbx:=hr4.trans (hb.mono hr4.size);obtain ⟨f00,f10,f20,f30⟩:=qv0.two;obtain ⟨Zq0,hZ0,hbZq0,qZ0,kZ0⟩:=Zu q0n q0A q0k q0c hbx kv0 qv0;replace qv1:=kZ0.2.1 _ _ _ hgne.symm qv1
     refine wpAnyL_o 13 fun K hK=>?_
     go_simp;(try rw [hZ0]);refine hK.out _ _ (fun _=>hSv4.out _ hbZq0) ?_;clear hK K hZ0 f00 f10 f20 f30
     try simp only [Act.put,putL_a,putL_z,putL_s]
     obtain ⟨f01,f11,f21,f31⟩:=qv1.two;obtain ⟨Zq1,hZ1,hbZq1,qZ1,kZ1⟩:=Zu q1n q1A q1k q1c hbZq0 kv1 qv1
     refine wpAnyL_o 14 fun K hK=>?_
     go_simp;(try rw [hZ1]);refine hK.out _ _ (fun _=>hSv4.out _ hbZq1) ?_;clear hK K hZ1 f01 f11 f21 f31
     try simp only [Act.put,putL_a,putL_z,putL_s]
     refine Zt1 1 [15] rfl (by kernel_rfl) (hSv4.out _ hbZq1) ?_
     (refine tkA ?_;try simp only [Act.put,putL_a,putL_z,putL_s,putG_a,putG_s,putG_z])
     refine tk0 ?_;refine wpAnyL_fin ?_;have q0b:=Zb (kZ1.2.1 _ _ _ hgne qZ0);have q1b:=Zb qZ1;replace q0f:=Zb (kZ1.1 _ _ _ _ _ (kZ0.1 _ _ _ _ _ q0f));clear kZ0 kZ1 qZ0 qZ1 kv0 kv1 hbx hb hr4 hSv4 hxs4 hbZq0;have qd7:=Zd hbZq1 qd6.out;obtain ⟨x0,x1,y0,y1⟩:=qd7.two;obtain ⟨u0,u1,-,-⟩:=q0b.out.two;have hWd7:=Zb (hWd6.out.below hbZq1);have hB7:=Zb (hB6.out.trans (hbZq1.mono hB6.out.size));replace qd7:=Zb qd7;clear x0' x1' p2' p3' qd6 hWd6 hDen6 hB6 hbZq1 v0 v1 g0b g0f q1b q1f;go_wp2_with fail;refine (Zmk nb q0n B q0A m d q0k q0c 1 1 1 rfl (by decide) Zq1 hWd7.out q0f).mono ?_;rintro e w7 ⟨hb7,n7,A7,k7,c7,rfl,hW7⟩;have qd8:=Zd hb7 qd7.out;obtain ⟨y0',y1',z0,z1⟩:=qd8.two;obtain ⟨X8,hX8,hB8,q8,k8⟩:=Zu n7 A7 k7 c7 (hB7.out.trans (hb7.mono hB7.out.size)) hg1.out qd8;have hW8:=Zb (k8.1 _ _ _ _ _ hW7);replace q8:=Zb q8;replace hB8:=Zb hB8;clear hb7 qd8 hB7 hW7 k8 u0 u1 q0b q0f qd7 hWd7 x0 x1 y0 y1;go_wp2_with fail;(try rw [hX8])
     go_roundg (n - (i + 1))
     case measure=>omega
     case rel=>exact ⟨i + 1,n7,A7,k7,c7,by omega,by go_num,q8.out,hW8.out,hB8.out⟩
def OutO (w : World) (xs : List Int) (e : Ending) (w' : World) : Prop:=∃ v,e = .returned v /\ OwnP 26 w' w.heap.size v xs /\ Below w.heap.size w w'
theorem OwnP.weak {t : TypeId} {w : World} {b base : Nat} {v : Value} {xs : List Int} (h : OwnP t w base v xs) (hb : b <= base) : OwnP t w b v xs:=by
 obtain ⟨es,h1,h2⟩:=h;refine ⟨es,?_,h2⟩
 rcases h1 with h1 | ⟨g,sp,h3,h4,h5⟩
 ·exact .inl h1
 ·exact .inr ⟨g,sp,h3,Nat.le_trans hb h4,h5⟩
theorem POwn.put {t : TypeId} {w w0 : World} {B g i : Nat} {L zs : List Int} {neg : Bool} {A : Option Addr} {n c : Nat} {z : Int} (h : POwn t w g (L ++ zs)) (hi : i < L.length) (hz : Wd w neg A n c z) (hB : Below B w0 w) (hg : B <= g) :
    ∃ W,(w.setCell ⟨g,i * 2,none⟩ (.bool neg)).setCell ⟨g,i * 2 + 1,none⟩ (.slice A n c) = W /\ Below B w0 W /\ POwn t W g (L.set i z ++ zs) /\ (∀ na A' n' c' y,Wd w na A' n' c' y -> Wd W na A' n' c' y) /\ (∀ g' t' cs',g' ≠ g -> Blk w g' t' cs' -> Blk W g' t' cs') /\ W.heap.size = w.heap.size:=by
 have h1:=h.set_ (i:=i) (by rw [List.length_append];omega) hz;rw [List.set_append_left _ _ hi] at h1;exact ⟨_,rfl,(hB.setCell (p:=⟨g,i * 2,none⟩) hg _).setCell (p:=⟨g,i * 2 + 1,none⟩) hg _,h1,fun na A' n' c' y hW=>hW.keepO h i neg A n c,fun g' t' cs' hne hb=>(hb.far (p:=⟨g,i * 2,none⟩) hne _).far (p:=⟨g,i * 2 + 1,none⟩) hne _,by simp⟩
theorem POwn.farK {t t' : TypeId} {w : World} {g g' : Nat} {xs : List Int} {cs : Array Value} (h : POwn t w g xs) (hb : Blk w g' t' cs) (hn : NoLimb cs) (hne : g ≠ g') (i : Nat) (u : Value) : POwn t (w.setCell ⟨g',i,none⟩ u) g xs:=by
 obtain ⟨es,h1,h2,h3⟩:=h;exact ⟨es,h1.far (p:=⟨g',i,none⟩) hne u,fun e he=>⟨(h2 e he).1.set_box hb hn i u,(h2 e he).2⟩,h3⟩
section
variable (na nb : Bool) (A B : Option Addr) (n c m d : Nat) (x y : Int) (w : World)
theorem Zpa (ha : Wd w na A n c x) (hb : Wd w nb B m d y) (hs : (x * y).natAbs < pw 4096) :
    Calls Try.prog 49 #[.agg #[.bool na,.slice A n c],.agg #[.bool nb,.slice B m d]] w fun e w'=>Below w.heap.size w w' /\ ∃ neg A n c,e = .returned (.tuple #[.agg #[.bool neg,.slice A n c],.int .i64 0]) /\ Wd w' neg A n c (x * y):=
 (Zdf na nb A B n c m d x y w ha hb).mono fun e w' h=>by
  obtain ⟨h1,neg,A,n,c,code,rfl,hR⟩:=h;obtain rfl:=hR.code0 hs;exact ⟨h1,neg,A,n,c,rfl,hR.small hs⟩
theorem rSub_T (ha : Wd w na A n c x) (hb : Wd w nb B m d y) (hs : (x - y).natAbs < pw 4096) :
    Calls Try.prog 50 #[.agg #[.bool na,.slice A n c],.agg #[.bool nb,.slice B m d]] w fun e w'=>Below w.heap.size w w' /\ ∃ neg A n c,e = .returned (.tuple #[.agg #[.bool neg,.slice A n c],.int .i64 0]) /\ Wd w' neg A n c (x - y):=
 (Zp2 na nb A B n c m d x y w ha hb).mono fun e w' h=>by
  obtain ⟨h1,neg,A,n,c,code,rfl,hR⟩:=h;obtain rfl:=hR.code0 hs;exact ⟨h1,neg,A,n,c,rfl,hR.small hs⟩
theorem Zpd (ha : Wd w na A n c x) :
    Calls Try.prog 48 #[.agg #[.bool na,.slice A n c]] w fun e w'=>Below w.heap.size w w' /\ ∃ neg A n c,e = .returned (.tuple #[.agg #[.bool neg,.slice A n c],.int .i64 0]) /\ Wd w' neg A n c (-x):=
 (Zqa na A n c x w ha).mono fun e w' h=>by
  have hs : (-x).natAbs < pw 4096:=by rw [Int.natAbs_neg];exact ha.small
  obtain ⟨h1,neg,A,n,c,code,rfl,hR⟩:=h;obtain rfl:=hR.code0 hs;exact ⟨h1,neg,A,n,c,rfl,hR.small hs⟩
end
theorem rAbs_ok (neg : Bool) (A : Option Addr) (n c : Nat) (z : Int) (w : World) (hz : Wd w neg A n c z) :
    Calls Try.prog 47 #[.agg #[.bool neg,.slice A n c]] w (ResW w (z.natAbs : Int)):=by
 have hL:=hz.lim;have hn:=hz.2.1
 have hB0 : ∀ X Y : Obj,Below w.heap.size w ((w.alloc X).alloc Y):=fun X Y=>((Below.refl w.heap.size w).alloc (Nat.le_refl _) _).alloc (by simp) _
 have hB0:=Zb hB0;have hgood : Hid (okW neg (digits z.natAbs) = true):=hz.ok;have hsg:=Zb hz.sgEq;clear hz;go_enter Try.func47,Try.ntmps47;go_wp2_with fail;refine (Zgo ((hL.alloc _).alloc _) hgood.out).mono ?_;rintro e w1 ⟨rfl,hb1⟩;obtain ⟨hc1,hf1⟩:=Zca hb1
 have hz1 : w.heap.size + 1 < w1.heap.size:=by have:=hb1.size;simp at this;omega
 have hB1 : Below w.heap.size w w1:=(hB0.out _ _).trans (hb1.mono (by simp;omega))
 have g7 : Hid (Blk w1 (w.heap.size + 1) 26 #[.bool false,.slice none 0 0]):=by
  refine Zd hb1 ?_;have:=Blk.new (w.alloc (.cells #[.bool neg,.slice A n c] 26)) 26 #[.bool false,.slice none 0 0];simp only [World.size_alloc] at this;exact this
 have hL1:=hL.below hB1;go_wp2_with fail;refine (Zax _ _ _ _ _ _ hL1 (by omega)).mono ?_;rintro e w2 ⟨hb2,neg3,A3,n3,c3,code3,rfl,hR3⟩;have hB2 : Below w.heap.size w w2:=hB1.trans (hb2.mono hB1.size);have m8:=Zd hb2 g7.out;have m3:=m8.cell 0;have m4:=m8.cell 1;have m5:=m8.frozen 0;have m6:=m8.frozen 1
 simp at m3 m4
 replace m8:=Zb m8;clear hc1 hf1;go_wp2_with fail
 have HZ : sg false (val (digits z.natAbs)) = (z.natAbs : Int):=by rw [Zg];rfl
 refine bodyPost_ret (v:=.tuple #[.agg #[.bool neg3,.slice A3 n3 c3],.int .i64 code3]) (by simp [results,Try.results47,go_sem,m3,m4]) rfl ?_;exact ResW.box (HZ ▸ hR3) hB2 (by omega) m8.out
theorem rAbs_T (na : Bool) (A : Option Addr) (n c : Nat) (x : Int) (w : World) (ha : Wd w na A n c x) :
    Calls Try.prog 47 #[.agg #[.bool na,.slice A n c]] w fun e w'=>Below w.heap.size w w' /\ ∃ neg A n c,e = .returned (.tuple #[.agg #[.bool neg,.slice A n c],.int .i64 0]) /\ Wd w' neg A n c (x.natAbs : Int):=
 (rAbs_ok na A n c x w ha).mono fun e w' h=>by
  have hs : ((x.natAbs : Int)).natAbs < pw 4096:=by rw [Int.natAbs_natCast];exact ha.small
  obtain ⟨h1,neg,A,n,c,code,rfl,hR⟩:=h;obtain rfl:=hR.code0 hs;exact ⟨h1,neg,A,n,c,rfl,hR.small hs⟩
theorem Zh8 (A : Option Addr) (n c : Nat) (xs : List Int) (w : World) (h : PolyL w A n c xs) (hn1000 : n <= 900) :
    Calls Try.prog 28 #[.slice A n c] w (OutO w (Zf xs)):=by
 obtain ⟨iw,hi,hz0,hz1,hz2⟩:=info_parts Zfm;have hxl:=Zb h.len;obtain ⟨es,h,hxs,hok⟩:=h;have hnc:=h.2.1;have hcm:=h.2.2.1;unfold maxLen at hcm;have hel:=Zb h.len
 have HF : Hid (∀ (k : Nat) (v1 : Value) (w1 : World),k <= n -> (∀ j,k <= j -> xs[j]?.getD 0 = 0) -> (k = 0 \/ xs[k - 1]?.getD 0 ≠ 0) -> OwnP 26 w1 w.heap.size v1 ([] ++ (es.take k).map WE.num) -> (w.alloc (.cells #[] 26)).grownBy w1 (Value.slice (some ⟨w.heap.size,0,none⟩) 0 0).ownBlock -> OutO w (Zf xs) (.returned v1) w1):=fun k v1 w1 hk hz hk0 ho hg=>by
  rw [List.nil_append,List.map_take,hxs,<- Ze9 hz hk0] at ho;exact ⟨_,rfl,ho,((Below.refl w.heap.size w).alloc (Nat.le_refl _) _).grown hg (by simp) (fun j hj=>by simp [Value.ownBlock] at hj;omega)⟩
 have hfs : Hid (∀ k,∀ e ∈ es.take k,Lim (w.alloc (.cells #[] 26)) e.A e.n e.c e.l /\ e.ok = true):=fun k e he=>⟨(h.2.2.2.2 e (List.mem_of_mem_take he)).alloc _,hok e (List.mem_of_mem_take he)⟩
 replace hxs:=Zb hxs;replace hok:=Zb hok;go_enter Try.func28,Try.ntmps28
 go_wp2
 go_loop [3] (fun v=>∃ k : Nat,k <= n /\ v = .int .i64 k /\ Hid (∀ j,k <= j -> xs[j]?.getD 0 = 0)) (fun v=>(intOf v).toNat)
 case atStart=>exact ⟨n,Nat.le_refl _,rfl,fun j hj=>by rw [List.getElem?_eq_none (by rw [hxl.out];exact hj)];rfl⟩
 case round =>
  obtain ⟨k,hk,rfl,hz⟩:=hrel
  by_cases hk0 : 0 < k
  ·have hd0 : decide ((0 : Int) < (k : Int)) = true:=by simp;omega
   obtain ⟨b,o,e,rfl,he,hc1,hc2,hL⟩:=h.at_ (k:=k - 1) (by omega);have hm1:=Nat.le_trans hL.2.1 hL.2.2.1;unfold maxLen at hm1;have hnz:=WE.num_zero hL (hok.out e (List.mem_of_getElem? he))
   have hxk : xs[k - 1]?.getD 0 = e.num:=by rw [<- hxs.out,List.getElem?_map,he];rfl
   obtain ⟨neg,A1,n1,c1,l1⟩:=e;dsimp only at hc1 hc2 hL hm1 hnz;replace hxk:=Zb hxk;replace hnz:=Zb hnz;clear he hL
   by_cases hx : n1 = 0
   ·have hd : ((n1 : Int) == 0) = true:=by simpa using hx
    replace hx:=Zb hx;have hr:=Zb h;clear h
    go_wp2
    go_round
    case rel=>exact ⟨k - 1,by omega,by go_num,fun j hj=>by
        rcases Nat.lt_or_ge j k with h' | h'
        ·obtain rfl : j = k - 1:=by omega
         rw [hxk.out];exact hnz.out.1 hx.out
        ·exact hz.out j h'⟩
    case measure=>simp [intOf];omega
   ·have hd : ((n1 : Int) == 0) = false:=by simpa using hx
    have hxz:=Zb (show xs[k - 1]?.getD 0 ≠ 0 by rw [hxk.out];exact fun h'=>hx (hnz.out.2 h'));replace hx:=Zb hx;have hr:=Zb (h.take hk);have hrl:=Zb (show (es.take k).length = k by rw [List.length_take,hel.out];omega);clear h;go_wp2_with (at_builtin;refine Zaa _ rfl (.tmp 20) (.tmp 23) 22 rfl w.heap.size 26 iw Try.underlying22 hi hz0 hz1 hz2 _ _ rfl (OwnP.empty _ _) _ _ k c (es.take k) rfl (by exact (hr.out.alloc _).reads) hrl.out (hfs.out k) (by simp;omega) (by simp) ?_;intro v1 w1 hown1 hg1 hk1);go_ret;exact HF.out k _ _ hk hz.out (.inr hxz.out) hown1 hg1
  ·obtain rfl : k = 0:=by omega
   have hr:=Zb (h.take hk);clear h;go_wp2_with (at_builtin;refine Zaa _ rfl (.tmp 20) (.tmp 23) 22 rfl w.heap.size 26 iw Try.underlying22 hi hz0 hz1 hz2 _ _ rfl (OwnP.empty _ _) _ _ 0 c (es.take 0) rfl (by exact (hr.out.alloc _).reads) rfl (hfs.out 0) (by simp) (by simp) ?_;intro v1 w1 hown1 hg1 hk1);go_ret;exact HF.out 0 _ _ hk hz.out (.inl rfl) hown1 hg1
theorem Zmo (A : Option Addr) (n c : Nat) (xs : List Int) (w : World) (h : PolyL w A n c xs) :
    Calls Try.prog 51 #[.slice A n c] w (NumW w (Zaf xs)):=by
 have hmx : Try.prog.follows .mixedOrders = true:=by kernel_rfl
 obtain ⟨hnc,hcm⟩:=h.cap;unfold maxLen at hcm;have hlen:=Zb h.len;replace h:=Zb h;obtain ⟨X1,hX1,hB1,q1,k1,-,s1⟩:=Z8 26 #[.bool false,.slice none 0 0] (Below.refl w.heap.size w) (Nat.le_refl _);obtain ⟨X2,hX2,hB2,q2,k2,far2,s2⟩:=Z8 26 #[.bool false,.slice none 0 0] hB1 hB1.size;rw [s1] at q2;obtain ⟨X3,hX3,hB3,q3,k3⟩:=Zu false none 0 0 hB2 (by omega) q2;obtain ⟨a0,a1,f0,f1⟩:=q2.two;have q1':=k3.2.1 _ _ _ (by omega) (far2 _ _ _ q1);replace q1':=Zb q1';replace q3:=Zb q3;replace hB3:=Zb hB3;clear q1 q2 k1 k2 k3 far2 hB1 hB2 s2;go_enter Try.func51,Try.ntmps51;go_wp2_with fail;clear a0 a1 f0 f1 hX1 hX2 hX3 s1;obtain ⟨gR,hgR⟩ : ∃ g,g = w.heap.size:=⟨_,rfl⟩
 have kR : w.heap.size <= gR:=by omega
 have hgG1 : w.heap.size <= w.heap.size + 1:=by omega
 obtain ⟨gG,hgG⟩ : ∃ g,g = w.heap.size + 1:=⟨_,rfl⟩
 have hne : gR ≠ gG:=by omega
 rw [<- hgG] at q3 hgG1 ⊢;rw [<- hgR] at q1' ⊢;have hgR':=Zb hgR;have hgG':=Zb hgG;clear hgR hgG
 go_loopg [4] n (fun k iv wr=>∃ (i : Nat) (nb : Bool) (B : Option Addr) (m d : Nat),i + k = n /\ iv = .int .i64 i /\ Blk wr gG 26 #[.bool nb,.slice B m d] /\ Blk wr gR 26 #[.bool false,.slice none 0 0] /\ Wd wr nb B m d (Zcn xs i) /\ Below w.heap.size w wr)
 case atStart=>exact ⟨0,false,none,0,0,by omega,rfl,q3.out,q1'.out,Wd.zero _,hB3.out⟩
 case round =>
  clear q3 q1' hB3;obtain ⟨i,nb,B,m,d,hik,rfl,qd,qr,hWd,hB⟩:=hrel;obtain ⟨wA,rfl⟩ : ∃ x : World,x = wr:=⟨_,rfl⟩
  cases gk with
  | zero =>
   obtain rfl : i = n:=by omega
   have tge : decide ((i : Int) < (i : Int)) = false:=by simp
   obtain ⟨c0,c1,-,-⟩:=qd.two;obtain ⟨d0,d1,d2,d3⟩:=qr.two;obtain ⟨Z,hZ,hBZ,qz,st⟩:=Zu nb B m d hB kR qr;have hz:=Zb (st.1 _ _ _ _ _ hWd);obtain ⟨z0,z1,z2,z3⟩:=qz.two;clear st hWd;go_wp2_with fail;(try rw [hZ]);refine bodyPost_ret (v:=.agg #[.bool nb,.slice B m d]) (by simp [results,Try.results51,go_sem,z0,z1]) rfl ?_;exact ⟨hBZ,_,_,_,_,rfl,by unfold Zaf;rw [hlen.out];exact hz.out⟩
  | succ gk' =>
   obtain rfl : gk' = n - (i + 1):=by omega
   have hin : i < n:=by omega
   have tlt : decide ((i : Int) < (n : Int)) = true:=by simp;omega
   have bI : (i : Int) < (n : Int):=by omega
   obtain ⟨b,o,ne,Ae,ke,ce,rfl,p0,p1,hwe⟩:=(h.out.below hB).at_ hin;have hcK : Hid (Zcn xs (i + 1) = Zfr (Zcn xs i) (xs[i]?.getD 0)):=Zb rfl;replace hwe:=Zb hwe;replace hWd:=Zb hWd;replace hB:=Zb hB;replace qd:=Zb qd;replace qr:=Zb qr;go_wp2_with fail;have cc1 : wA.cell? ⟨gG,0,none⟩ = some (.bool nb):=qd.out.cell 0;have cc2 : wA.cell? ⟨gG,1,none⟩ = some (.slice B m d):=qd.out.cell 1;have hr3 : Below wA.heap.size wA wA.drew:=Zr (Below.refl _ _) 1;replace hwe:=Zb (hwe.out.below hr3);replace hWd:=Zb (hWd.out.below hr3);replace qd:=Zb (Zd hr3 qd.out);replace qr:=Zb (Zd hr3 qr.out);have hB4:=Zb (hB.out.trans (hr3.mono hB.out.size));clear hB;replace cc1:=Za hr3 cc1;replace cc2:=Za hr3 cc2;replace p0:=Za hr3 p0;replace p1:=Za hr3 p1;clear hr3;refine Zav [9] (fun wx=>(wx.cell? ⟨gG,0,none⟩ = some (.bool nb)) /\ (wx.cell? ⟨gG,1,none⟩ = some (.slice B m d)) /\ (wx.cell? ⟨b,o + i * 2,none⟩ = some (.bool ne)) /\ (wx.cell? ⟨b,o + i * 2 + 1,none⟩ = some (.slice Ae ke ce))) hmx ⟨cc1,cc2,p0,p1⟩ (fun _=>?_);refine Zt2 5 [0,1,2,3,4] rfl (by kernel_rfl) ⟨cc1,cc2,p0,p1⟩ ?_
   iterate 5 (refine tkA ?_;try simp only [Act.put,putL_a,putL_z,putL_s,putG_a,putG_s,putG_z])
   refine tk0 ?_
   refine wpAnyL_o 5 fun K hK=>?_
   (try rw [if_pos (by kernel_rfl)]);go_simp;refine (Zmd nb ne B Ae m d ke ce (Zcn xs i) (xs[i]?.getD 0) wA.drew hWd.out hwe.out).mono ?_;rintro e w5 ⟨hb3,n3,A3,m3,d3,code3,rfl,hp3⟩;replace hwe:=Zb (hwe.out.below hb3);replace hWd:=Zb (hWd.out.below hb3);replace qd:=Zb (Zd hb3 qd.out);replace qr:=Zb (Zd hb3 qr.out);have hB6:=Zb (hB4.out.trans (hb3.mono hB4.out.size));clear hB4;replace cc1:=Za hb3 cc1;replace cc2:=Za hb3 cc2;replace p0:=Za hb3 p0;replace p1:=Za hb3 p1;clear hb3;refine hK.out _ _ (fun _=>⟨cc1,cc2,p0,p1⟩) ?_;clear hK K
   try simp only [Act.put,putL_a,putL_z,putL_s,putG_a,putG_s,putG_z]
   have hg : Wd w5 n3 A3 m3 d3 (Zfr (Zcn xs i) (xs[i]?.getD 0)):=hp3.small (Zg8 hWd.out.small hwe.out.small);clear hp3;replace hg:=Zb hg;refine Zt1 3 [6,7,8] rfl (by kernel_rfl) ⟨cc1,cc2,p0,p1⟩ ?_
   iterate 3 (refine tkA ?_;try simp only [Act.put,putL_a,putL_z,putL_s,putG_a,putG_s,putG_z])
   refine tk0 ?_;obtain ⟨k0,k1,k2,k3⟩:=qd.out.two;obtain ⟨Z,hZ,hBZ,qz,st⟩:=Zu n3 A3 m3 d3 hB6.out hgG1 qd.out;have hg2:=Zb (st.1 _ _ _ _ _ hg.out);have qr2:=Zb (st.2.1 _ _ _ hne qr.out);refine Zbn (i:=9) rfl (by kernel_rfl) (by kernel_rfl) (fun K hK=>?_);go_simp;(try rw [hZ]);refine hK.out _ _ ?_;clear hK K
   try simp only [Act.put,putL_a,putL_z,putL_s,putG_a,putG_s,putG_z]
   refine wpAnyL_fin ?_;clear st k0 k1 k2 k3 qd qr hg hWd hwe;replace qz:=Zb qz;replace hBZ:=Zb hBZ;clear cc1 cc2 p0 p1;go_wp2_with fail
   go_roundg (n - (i + 1))
   case measure=>omega
   case rel=>exact ⟨i + 1,n3,A3,m3,d3,by omega,by go_num,qz.out,qr2.out,by rw [hcK.out];exact hg2.out,hBZ.out⟩
theorem Zru {ps : List Int} {n : Nat} (hl : ps.length = n) (h : ¬ ps[n - 1]?.getD 0 < 0) : signP ps = Zaf ps:=by unfold signP;rw [hl,if_neg h]
theorem Zqu {ps : List Int} {n : Nat} (hl : ps.length = n) (h : ps[n - 1]?.getD 0 < 0) : signP ps = -Zaf ps:=by unfold signP;rw [hl,if_pos h]
theorem Zqk {ps : List Int} {i : Nat} (hi : i < ps.length) : (Zh ps).take i ++ [Int.fdiv (ps[i]?.getD 0) (signP ps)] = (Zh ps).take (i + 1):=by
 rw [List.take_add_one,Zh,List.getElem?_map,List.getElem?_eq_getElem hi]
 rfl
theorem Zd9 (ps : List Int) : (Zh ps).length = ps.length:=by simp [Zh]
theorem Zdy (A : Option Addr) (n c : Nat) (ps : List Int) (w : World) (h : PolyL w A n c ps) (hn : n <= 900) (hg0 : n = 0 \/ signP ps ≠ 0) :
    Calls Try.prog 30 #[.slice A n c] w (OutO w (Zh ps)):=by
 obtain ⟨iw,hi,hz0,hz1,hz2⟩:=info_parts Zfm
 have hmx : Try.prog.follows .mixedOrders = true:=by kernel_rfl
 obtain ⟨hnc,hcm⟩:=h.cap;unfold maxLen at hcm;have hlen:=Zb h.len;have hc0:=Zmo A n c ps w h;replace h:=Zb h;replace hg0:=Zb hg0;go_enter Try.func30,Try.ntmps30;go_wp2_with fail;refine hc0.mono ?_;rintro e w1 ⟨hb1,ng,Ag,kg,cg,rfl,hg1⟩;clear hc0;obtain ⟨gG,hgG⟩ : ∃ g,w1.heap.size = g:=⟨_,rfl⟩
 have hgGw : w.heap.size <= gG:=by rw [<- hgG];exact hb1.size
 obtain ⟨V,hV,hBV,q,vd,vb,vsz⟩:=Z8 26 #[.bool false,.slice none 0 0] hb1 hb1.size;replace hg1:=vd _ _ _ _ _ hg1;obtain ⟨y0,y1,y2,y3⟩:=q.two;obtain ⟨X,hX,hBX,q,st⟩:=Zu ng Ag kg cg hBV hb1.size q;replace hg1:=st.1 _ _ _ _ _ hg1;clear st vd vb;obtain ⟨s0,s1,s2,s3⟩:=q.two;rw [hgG] at q s0 s1 s2 s3 y0 y1 y2 y3 hX;have hgw1 : Hid (w.heap.size + 1 <= gG + 1):=Zb (by omega)
 by_cases hn0 : n = 0
 ·have t0 : decide ((0 : Int) < (n : Int)) = false:=by simp;omega
  have t0' : decide (0 < n) = false:=by simp;omega
  have hps : ps = []:=List.eq_nil_of_length_eq_zero (by rw [hlen.out];exact hn0);have hpp : Hid (Zh ps = []):=Zb (by rw [hps];rfl);replace hn0:=Zb hn0;replace hps:=Zb hps;replace hBX:=Zb hBX;go_wp2_with fail;(try rw [hgG]);(try rw [hV]);(try rw [hX])
  go_loopg [4,5] 0 (fun k ov iv wr=>ov = .slice none 0 0 /\ iv = .int .i64 0 /\ wr = X)
  case atStart=>exact ⟨rfl,rfl,rfl⟩
  case round =>
   obtain ⟨rfl,rfl,rfl⟩:=hrel;go_wp2_with fail;go_ret;exact ⟨_,rfl,by rw [hpp.out];exact OwnP.nil _ _ _,hBX.out⟩
 have t0 : decide ((0 : Int) < (n : Int)) = true:=by simp;omega
 have t0' : decide (0 < n) = true:=by simp;omega
 obtain ⟨j1,hj1⟩ : ∃ j1 : Nat,n = j1 + 1:=⟨n - 1,by omega⟩;obtain ⟨b0,ob0,e0,Ae,ke,ce,hA0,cc1,cc2,hwe0⟩:=(h.out.below hBX).at_ (k:=j1) (by omega);subst hA0;have hnn:=hwe0.1
 have hjn : n - 1 = j1:=by omega
 have hji : (n : Int) - 1 = (j1 : Int):=by omega
 have hwr : IntKind.i64.wrap ((n : Int) - 1) = (j1 : Int):=by rw [hji,IntKind.wrap_i64];omega
 have hjl : (j1 : Int) < (n : Int):=by omega
 have hj0 : (0 : Int) <= (j1 : Int):=by omega
 have hjl2 : j1 < n:=by omega
 have hsp1:=Zb (Zru (ps:=ps) hlen.out);have hsp2:=Zb (Zqu (ps:=ps) hlen.out);rw [hjn] at hsp1 hsp2;replace hj1:=Zb hj1;replace hji:=Zb hji;replace hjn:=Zb hjn;replace hn0:=Zb hn0;replace hnn:=Zb hnn;replace hg1:=Zb hg1;replace hBX:=Zb hBX
 go_upto_if 22 with fail
 (try rw [hgG]);(try rw [hV]);(try rw [hX]);replace hgG:=Zb hgG;clear hV hX y0 y1 y2 y3
 go_cut [] from 23 to 27 (fun wx=>∃ (ng : Bool) (Ag : Option Addr) (kg cg : Nat),Below w.heap.size w wx /\ Blk wx gG 26 #[.bool ng,.slice Ag kg cg] /\ Wd wx ng Ag kg cg (signP ps))
 case first =>
  cases e0
  case false =>
   have hnz : ¬ ps[j1]?.getD 0 < 0:=of_decide_eq_false hnn.out.symm;have hsP:=hsp1.out (by first | exact hnz | exact Int.not_lt.1 hnz);rw [<- hsP] at hg1;replace q:=Zb q;clear hwe0 hnn hnz hsP hsp1 hsp2;go_wp2_with fail
   go_meet
   exact ⟨ng,Ag,kg,cg,hBX.out,q.out,hg1.out⟩
  case true =>
   have hnz : ps[j1]?.getD 0 < 0:=of_decide_eq_true hnn.out.symm;have hsP:=Zb (hsp2.out hnz);clear hwe0 hnn hnz hsp1 hsp2;go_wp2_with fail;refine (Zqa ng Ag kg cg (Zaf ps) X hg1.out).mono ?_;rintro e w2 ⟨hb2,nn,An,kn,cn',code2,rfl,hp2⟩
   have hgN : Wd w2 nn An kn cn' (signP ps):=by rw [hsP.out];exact hp2.small (by rw [Int.natAbs_neg];exact hg1.out.small)
   clear hp2 hg1 s0 s1 s2 s3 cc1 cc2;have hB2:=hBX.out.trans (hb2.mono hBX.out.size);replace q:=Zd hb2 q;obtain ⟨s0,s1,s2,s3⟩:=q.two;obtain ⟨Z,hZ,hBZ,qz,st⟩:=Zu nn An kn cn' hB2 hgGw q;replace hgN:=Zb (st.1 _ _ _ _ _ hgN);replace hBZ:=Zb hBZ;replace qz:=Zb qz;clear st q hB2;go_wp2_with fail;(try rw [hZ])
   go_meet
   exact ⟨nn,An,kn,cn',hBZ.out,qz.out,hgN.out⟩
 case rest =>
  clear s0 s1 s2 s3 q hg1 hBX cc1 cc2 hwe0;obtain ⟨ng,Ag,kg,cg,hBX,q,hg1⟩:=hcut;obtain ⟨wx,rfl⟩ : ∃ x : World,x = wc:=⟨_,rfl⟩;have hgl:=Zb q.lt;replace hBX:=Zb hBX;replace q:=Zb q;replace hg1:=Zb hg1;go_wp2_with fail
  go_loopg [4,5] n (fun k ov iv wr=>∃ i : Nat,i + k = n /\ iv = .int .i64 i /\ OwnP 26 wr (gG + 1) ov ((Zh ps).take i) /\ Blk wr gG 26 #[.bool ng,.slice Ag kg cg] /\ Wd wr ng Ag kg cg (signP ps) /\ Below w.heap.size w wr)
  case atStart=>exact ⟨0,by omega,rfl,OwnP.nil _ _ _,q.out,hg1.out,hBX.out⟩
  case round =>
   clear q hg1 hBX;obtain ⟨i,hik,rfl,hown,qd,hWd,hB⟩:=hrel;obtain ⟨wA,rfl⟩ : ∃ x : World,x = wr:=⟨_,rfl⟩
   cases gk with
   | zero =>
    obtain rfl : i = n:=by omega
    have tge : decide ((i : Int) < (i : Int)) = false:=by simp
    rw [List.take_of_length_le (by rw [Zd9,hlen.out];exact Nat.le_refl _)] at hown;replace hown:=Zb hown;replace hB:=Zb hB;clear qd hWd;go_wp2_with fail;go_ret;exact ⟨_,rfl,hown.out.weak (by have:=hgGw;omega),hB.out⟩
   | succ gk' =>
    obtain rfl : gk' = n - (i + 1):=by omega
    have hin : i < n:=by omega
    have tlt : decide ((i : Int) < (n : Int)) = true:=by simp;omega
    have bI : (i : Int) < (n : Int):=by omega
    obtain ⟨b,o,ne,Ae,ke,ce,hAe,p0,p1,hwe⟩:=(h.out.below hB).at_ hin
    cases hAe
    have hst:=Zb (Zqk (ps:=ps) (i:=i) (by rw [hlen.out];exact hin));have hlt:=Zb (show ((Zh ps).take i).length <= 900 by rw [List.length_take];omega);obtain ⟨x0,x1,-,-⟩:=qd.two;replace hwe:=Zb hwe;replace hWd:=Zb hWd;replace hB:=Zb hB;replace qd:=Zb qd;replace hown:=Zb hown;have hnz : Hid (signP ps ≠ 0):=Zb (by rcases hg0.out with h | h;omega;exact h);go_wp2_with fail;have hSv101 : Hid (∀ wx,Below wA.heap.size wA wx -> wx.cell? ⟨gG,0,none⟩ = some (.bool ng) /\ wx.cell? ⟨gG,1,none⟩ = some (.slice Ag kg cg) /\ wx.cell? ⟨b0,ob0 + i * 2,none⟩ = some (.bool ne) /\ wx.cell? ⟨b0,ob0 + i * 2 + 1,none⟩ = some (.slice Ae ke ce)):=Zb (fun wx hbx=>⟨Za hbx x0,Za hbx x1,Za hbx p0,Za hbx p1⟩);have hr101 : Below wA.heap.size wA wA.drew:=Zr (Below.refl _ _) 1;refine wp_heldS [] hmx hSv101 hr101 (fun hxs101=>?_);refine Zt2 5 [0,1,2,3,4] rfl (by kernel_rfl) (hSv101.out _ hr101) ?_
    iterate 5 (refine tkA ?_;try simp only [Act.put,putL_a,putL_z,putL_s,putG_a,putG_s,putG_z])
    refine tk0 ?_;refine Za0 [(10,6),(11,7)] [(5,40),(6,34),(10,6),(11,7)] (fun i=>match i with | 6=>[7,8,9] | _=>[]) [(5,40),(6,34),(7,41),(8,42),(9,43),(10,6),(11,7)] (Zl wA.heap.size (T2 (Int.fdiv (ps[i]?.getD 0) (signP ps)) (Int.fmod (ps[i]?.getD 0) (signP ps))) (Int.fdiv (ps[i]?.getD 0) (signP ps)) (Int.fmod (ps[i]?.getD 0) (signP ps)) 5 6 7 8 9 10 11) 3 (by kernel_rfl) (fun _ _ _ _ _ hb h=>Zba (fun _ _ _=>T2.stays) hb h) (fun wx h=>hSv101.out _ (hr101.trans (h.mono hr101.size))) ?hop101 ?hfin101
    case hop101 =>
     intro p hp;simp only [List.mem_cons,List.not_mem_nil,or_false] at hp;simp only [List.map_cons,List.map_nil,Zae,Act.put,putL_a,putL_z,putL_s]
     rcases hp with rfl | rfl | rfl | rfl
     ·intro ν wx hb hP
      have hbx:=hr101.trans (hb.mono hr101.size);refine Zo (i:=5) rfl (fun K hK=>?_);go_simp;refine (Zfk ne ng Ae Ag ke ce kg cg (ps[i]?.getD 0) (signP ps) wx (hwe.out.below hbx) (hWd.out.below hbx) hnz.out).mono ?_;rintro e w5 ⟨hb5,na5,A5,k5,c5,nb5,B5,m5,d5,rfl,hf5,hg5⟩;exact hK.out _ _ ⟨_,rfl,(by simp only [Zl];exact ⟨_,_,_,_,_,_,_,_,rfl,hf5,hg5⟩),hb5,trivial,fun h=>by simp at h⟩
     ·intro ν wx hb hP
      have h0:=hP (5,40) (by simp) (by kernel_rfl);simp only [Zl] at h0;obtain ⟨na5,A5,k5,c5,nb5,B5,m5,d5,hν,hf5,hg5⟩:=h0;rw [hν];refine Zo (i:=6) rfl (fun K hK=>?_);go_simp;refine hK.out _ _ ⟨_,rfl,(by simp only [Zl];exact ⟨_,_,_,_,_,_,_,_,rfl,hf5,hg5⟩),Below.refl _ _,?_,fun h=>by simp at h⟩;exact ⟨_,.agg #[.bool na5,.slice A5 k5 c5],rfl,Or.inl ⟨by kernel_rfl,fun W2 _=>by go_simp⟩,(by simp only [Zl];exact ⟨_,_,_,_,rfl,hf5⟩),⟨_,.agg #[.bool nb5,.slice B5 m5 d5],rfl,Or.inl ⟨by kernel_rfl,fun W2 _=>by go_simp⟩,(by simp only [Zl];exact ⟨_,_,_,_,rfl,hg5⟩),⟨_,.int .i64 0,rfl,Or.inl ⟨by kernel_rfl,fun W2 _=>by go_simp⟩,by simp [Zl],trivial⟩⟩⟩
     ·intro ν wx hb hP
      refine Zo (i:=10) rfl (fun K hK=>?_);go_simp
      exact hK.out _ _ ⟨_,rfl,(by simp only [Zl];exact ⟨_,rfl,hb.size,Blk.new _ _ _⟩),(Below.refl _ _).alloc (Nat.le_refl _) _,trivial,(fun _ q hq u hu=>by
       simp only [List.mem_cons,List.not_mem_nil,or_false] at hq
       rcases hq with rfl | rfl <;> (simp only [Zl] at hu;exact NewW.ne hu))⟩
     ·intro ν wx hb hP
      refine Zo (i:=11) rfl (fun K hK=>?_);go_simp
      exact hK.out _ _ ⟨_,rfl,(by simp only [Zl];exact ⟨_,rfl,hb.size,Blk.new _ _ _⟩),(Below.refl _ _).alloc (Nat.le_refl _) _,trivial,(fun _ q hq u hu=>by
       simp only [List.mem_cons,List.not_mem_nil,or_false] at hq
       rcases hq with rfl | rfl <;> (simp only [Zl] at hu;exact NewW.ne hu))⟩
    case hfin101 =>
     intro ν wx hb hP hNE;have h0:=hP (5,40) (by simp);have h1:=hP (6,34) (by simp);have h3:=hP (9,43) (by simp);have hx0:=hP (7,41) (by simp);have hx1:=hP (8,42) (by simp);have ha0:=hP (10,6) (by simp);have ha1:=hP (11,7) (by simp);simp only [Zl] at h0 h1 hx0 ha0 hx1 ha1;obtain ⟨a0,a1,a2,a3,a4,a5,a6,a7,h0,-,-⟩:=h0;obtain ⟨e0,e1,e2,e3,e4,e5,e6,e7,h1,-,-⟩:=h1;obtain ⟨q0n,q0A,q0k,q0c,hx0,q0f⟩:=hx0;obtain ⟨gq0,ha0,kv0,qv0⟩:=ha0;obtain ⟨q1n,q1A,q1k,q1c,hx1,q1f⟩:=hx1;obtain ⟨gq1,ha1,kv1,qv1⟩:=ha1
     have hgne : gq0 ≠ gq1:=fun h=>by
      refine hNE (10,6) (by simp) (11,7) (by simp) (by simp) ?_;rw [ha0,ha1,h]
     simp only [List.map_cons,List.map_nil,Zae,Act.put,putL_a,putL_z,putL_s];rw [h0,h1,hx0,hx1,(show ν 43 = Value.int .i64 0 by simpa [Zl] using h3),ha0,ha1];clear h0 h1 h3 hx0 ha0 hx1 ha1 hP ν hNE;have hbx:=hr101.trans (hb.mono hr101.size);obtain ⟨f00,f10,f20,f30⟩:=qv0.two;obtain ⟨Zq0,hZ0,hbZq0,qZ0,kZ0⟩:=Zu q0n q0A q0k q0c hbx kv0 qv0;replace qv1:=kZ0.2.1 _ _ _ hgne.symm qv1
     refine wpAnyL_o 12 fun K hK=>?_
     go_simp;(try rw [hZ0]);refine hK.out _ _ (fun _=>hSv101.out _ hbZq0) ?_;clear hK K hZ0 f00 f10 f20 f30
     try simp only [Act.put,putL_a,putL_z,putL_s]
     obtain ⟨f01,f11,f21,f31⟩:=qv1.two;obtain ⟨Zq1,hZ1,hbZq1,qZ1,kZ1⟩:=Zu q1n q1A q1k q1c hbZq0 kv1 qv1
     refine wpAnyL_o 13 fun K hK=>?_
     go_simp;(try rw [hZ1]);refine hK.out _ _ (fun _=>hSv101.out _ hbZq1) ?_;clear hK K hZ1 f01 f11 f21 f31
     try simp only [Act.put,putL_a,putL_z,putL_s]
     refine Zt1 1 [14] rfl (by kernel_rfl) (hSv101.out _ hbZq1) ?_
     (refine tkA ?_;try simp only [Act.put,putL_a,putL_z,putL_s,putG_a,putG_s,putG_z])
     refine tk0 ?_;refine wpAnyL_fin ?_;have q0b:=Zb (kZ1.2.1 _ _ _ hgne qZ0);have q1b:=Zb qZ1;replace q0f:=Zb (kZ1.1 _ _ _ _ _ (kZ0.1 _ _ _ _ _ q0f));have qkv:=kv0;clear kZ0 kZ1 qZ0 qZ1 kv0 kv1 hbx hb hr101 hSv101 hxs101 hbZq0;replace qd:=Zb (Zd hbZq1 qd.out);replace hWd:=Zb (hWd.out.below hbZq1);replace hown:=hown.out.kept hbZq1;replace hB:=hB.out.trans (hbZq1.mono hB.out.size);obtain ⟨u2,u3,-,-⟩:=q0b.out.two;have hsB:=hB.size;have hgDl:=qd.out.lt;clear x0 x1 p0 p1 hwe hbZq1 q0b q1b q1f qkv;go_wp2_with (at_builtin;refine Zaa _ rfl (.tmp 44) (.tmp 46) 22 rfl (gG + 1) 26 iw Try.underlying22 hi hz0 hz1 hz2 _ _ rfl (by exact hown.alloc _) _ _ 1 1 [⟨q0n,q0A,q0k,q0c,digits (Int.fdiv (ps[i]?.getD 0) (signP ps)).natAbs⟩] rfl (Zdu _ _ _ _ _ _ _) rfl (List.forall_mem_singleton.2 ⟨q0f.2.2.alloc _,q0f.ok⟩) (by have:=hlt.out;omega) (by simp;omega) ?_;intro v7 w7 hown7 hg7 hk7);have hB7 : Below (gG + 1) Zq1 w7:=((Below.refl (gG + 1) Zq1).alloc (by omega) _).grown hg7 (by simp;omega) hown.row_ge;have qd7:=(hB7.block gG (Nat.lt_succ_self _)).trans qd.out;have hWd7 : Wd w7 ng Ag kg cg (signP ps):=⟨hWd.out.1,hWd.out.2.1,hk7 _ _ _ _ (hWd.out.2.2.alloc _)⟩;have hB8:=hB.trans (hB7.mono (by have:=hgGw;omega));have hown8:=hown7.snoc q0f;rw [hst.out] at hown8
     go_roundg (n - (i + 1))
     case measure=>omega
     case rel=>exact ⟨i + 1,by omega,by go_num,hown8,qd7,hWd7,hB8⟩
def Zar : Nat -> (Nat -> Rat) -> Rat
 | 0,_=>0
 | n + 1,f=>Zar n f + f n
def Zay (i a : Nat) : Nat:=if a < i then a else a + 1
def Zih (i : Nat) : Rat:=if i % 2 = 0 then 1 else -1
def Zbt : Nat -> (Nat -> Nat -> Rat) -> Rat
 | 0,_=>1
 | n + 1,M=>Zar (n + 1) fun i=>Zih i * M i 0 * Zbt n (fun a b=>M (Zay i a) (b + 1))
theorem Zaq {n : Nat} {f g : Nat -> Rat} (h : ∀ i,i < n -> f i = g i) : Zar n f = Zar n g:=by
 induction n with
 | zero=>rfl
 | succ n ih=>simp only [Zar];rw [ih (fun i hi=>h i (by omega)),h n (by omega)]
theorem Zhp {n : Nat} (f g : Nat -> Rat) (x y : Rat) : Zar n (fun i=>x * f i + y * g i) = x * Zar n f + y * Zar n g:=by
 induction n with
 | zero=>simp only [Zar];grind
 | succ n ih=>simp only [Zar];rw [ih];grind
theorem Zig {n : Nat} {f : Nat -> Rat} (h : ∀ i,i < n -> f i = 0) : Zar n f = 0:=by
 induction n with
 | zero=>rfl
 | succ n ih=>simp only [Zar];rw [ih (fun i hi=>h i (by omega)),h n (by omega)];grind
theorem Zd8 {n : Nat} {f : Nat -> Rat} (k : Nat) (hk : k < n) (h : ∀ i,i < n -> i ≠ k -> f i = 0) : Zar n f = f k:=by
 induction n with
 | zero=>omega
 | succ n ih =>
  simp only [Zar]
  by_cases hn : k = n
  ·subst hn
   rw [Zig (fun i hi=>h i (by omega) (by omega))];grind
  ·rw [ih (by omega) (fun i hi=>h i (by omega)),h n (by omega) (by omega)];grind
theorem Zts {n : Nat} {f : Nat -> Rat} (k : Nat) (hk : k + 1 < n) (h : ∀ i,i < n -> i ≠ k -> i ≠ k + 1 -> f i = 0) : Zar n f = f k + f (k + 1):=by
 induction n with
 | zero=>omega
 | succ n ih =>
  simp only [Zar]
  by_cases hn : k + 1 = n
  ·subst hn
   rw [Zd8 k (by omega) (fun i hi h2=>h i (by omega) h2 (by omega))]
  ·rw [ih (by omega) (fun i hi=>h i (by omega)),h n (by omega) (by omega) (by omega)];grind
theorem Zj8 {i a n : Nat} (ha : a < n) : Zay i a < n + 1:=by unfold Zay;split <;> omega
theorem Zsv (i a : Nat) : Zay i a ≠ i:=by unfold Zay;split <;> omega
theorem Zhi {i k : Nat} (h : k ≠ i) : Zay i (if k < i then k else k - 1) = k:=by
 unfold Zay
 by_cases h1 : k < i
 ·rw [if_pos h1,if_pos h1]
 ·rw [if_neg h1,if_neg (by omega)];omega
theorem Zrt {i a b : Nat} (h : Zay i a = Zay i b) : a = b:=by unfold Zay at h;split at h <;> split at h <;> omega
theorem Zde {n : Nat} {M N : Nat -> Nat -> Rat} (h : ∀ a b,a < n -> b < n -> M a b = N a b) : Zbt n M = Zbt n N:=by
 induction n generalizing M N with
 | zero=>rfl
 | succ n ih =>
  simp only [Zbt]
  refine Zaq fun i hi=>?_
  rw [h i 0 hi (by omega),ih (fun a b ha hb=>h _ _ (Zj8 ha) (by omega))]
def Zac (M : Nat -> Nat -> Rat) (k : Nat) (r : Nat -> Rat) : Nat -> Nat -> Rat:=fun a b=>if a = k then r b else M a b
theorem Zel {M : Nat -> Nat -> Rat} {k i : Nat} {r : Nat -> Rat} (h : k ≠ i) :
    (fun a b=>Zac M k r (Zay i a) (b + 1)) = Zac (fun a b=>M (Zay i a) (b + 1)) (if k < i then k else k - 1) (fun b=>r (b + 1)):=by
 funext a b
 unfold Zac
 by_cases ha : a = (if k < i then k else k - 1)
 ·rw [if_pos ha,ha,Zhi h,if_pos rfl]
 ·rw [if_neg ha,if_neg]
  intro e;exact ha (Zrt (i:=i) (by rw [e,Zhi h]))
theorem Zem {M : Nat -> Nat -> Rat} {k : Nat} {r : Nat -> Rat} : (fun a b=>Zac M k r (Zay k a) (b + 1)) = (fun a b=>M (Zay k a) (b + 1)):=by
 funext a b
 unfold Zac;rw [if_neg (Zsv k a)]
theorem Zhk {n : Nat} (M : Nat -> Nat -> Rat) {k : Nat} (hk : k < n) (r s : Nat -> Rat) (x y : Rat) :
    Zbt n (Zac M k (fun b=>x * r b + y * s b)) = x * Zbt n (Zac M k r) + y * Zbt n (Zac M k s):=by
 induction n generalizing M k r s with
 | zero=>omega
 | succ n ih =>
  simp only [Zbt];rw [<- Zhp]
  refine Zaq fun i hi=>?_
  by_cases h : k = i
  ·subst h
   rw [Zem,Zem,Zem];simp only [Zac,if_true]
   grind
  ·rw [Zel h,Zel h,Zel h]
   rw [ih (fun a b=>M (Zay i a) (b + 1)) (k:=if k < i then k else k - 1) (by split <;> omega) (fun b=>r (b + 1)) (fun b=>s (b + 1))];simp only [Zac,if_neg (show ¬ i = k from fun e=>h e.symm)]
   grind
theorem Zq4 (i : Nat) : Zih (i + 1) = - Zih i:=by
 unfold Zih
 rcases Nat.mod_two_eq_zero_or_one i with h | h
 ·rw [if_pos h,if_neg (by omega)]
 ·rw [if_neg (by omega : ¬ i % 2 = 0),if_pos (by omega)];grind
theorem Zn6 {n : Nat} {M : Nat -> Nat -> Rat} {k : Nat} (hk : k + 1 < n) (h : ∀ b,M (k + 1) b = M k b) : Zbt n M = 0:=by
 induction n generalizing M k with
 | zero=>omega
 | succ n ih =>
  simp only [Zbt];rw [Zts k hk]
  ·have hm : (fun a b=>M (Zay k a) (b + 1)) = (fun a b=>M (Zay (k + 1) a) (b + 1)):=by
     funext a b
     by_cases ha : a = k
     ·subst ha
      simp only [Zay,if_neg (Nat.lt_irrefl a),if_pos (Nat.lt_succ_self a)];exact h _
     ·have : Zay k a = Zay (k + 1) a:=by unfold Zay;split <;> split <;> omega
      rw [this]
   rw [hm,h 0,Zq4];grind
  ·intro i hi h1 h2
   rw [ih (M:=fun a b=>M (Zay i a) (b + 1)) (k:=if k < i then k else k - 1)]
   ·grind
   ·split <;> omega
   ·intro b
    have e1 : Zay i (if k < i then k else k - 1) = k:=Zhi (Ne.symm h1)
    have e2 : Zay i ((if k < i then k else k - 1) + 1) = k + 1:=by unfold Zay;split <;> split <;> omega
    rw [e1,e2];exact h _
theorem Zes (M : Nat -> Nat -> Rat) (k : Nat) : Zac M k (M k) = M:=by
 funext a b;unfold Zac;split
 ·rename_i h;rw [h]
 ·rfl
theorem Zbi (M : Nat -> Nat -> Rat) {k l : Nat} (h : k ≠ l) (r s : Nat -> Rat) : Zac (Zac M k r) l s = Zac (Zac M l s) k r:=by
 funext a b;unfold Zac
 by_cases h1 : a = k
 ·subst h1;simp [h]
 ·simp [h1]
theorem Zkq {n : Nat} (M : Nat -> Nat -> Rat) {k : Nat} (hk : k < n) (r s : Nat -> Rat) :
    Zbt n (Zac M k (fun b=>r b + s b)) = Zbt n (Zac M k r) + Zbt n (Zac M k s):=by
 have:=Zhk M hk r s 1 1;rw [show (fun b=>r b + s b) = (fun b=>1 * r b + 1 * s b) by funext b;grind,this];grind
theorem Zmu {n : Nat} {k l : Nat} (hk : k < n) (hl : l < n) (hne : k ≠ l) (hz : ∀ (M : Nat -> Nat -> Rat),(∀ b,M k b = M l b) -> Zbt n M = 0) (M : Nat -> Nat -> Rat) (r s : Nat -> Rat) :
    Zbt n (Zac (Zac M k r) l s) = - Zbt n (Zac (Zac M k s) l r):=by
 have h:=hz (Zac (Zac M k (fun b=>r b + s b)) l (fun b=>r b + s b)) (fun b=>by simp [Zac,hne]);have h1:=hz (Zac (Zac M k r) l r) (fun b=>by simp [Zac,hne]);have h2:=hz (Zac (Zac M k s) l s) (fun b=>by simp [Zac,hne]);rw [Zkq _ hl,Zbi _ hne,Zbi _ hne,Zkq _ hk,Zkq _ hk,<- Zbi _ hne,<- Zbi _ hne,<- Zbi _ hne,<- Zbi _ hne,h1,h2] at h
 grind
theorem Zi3 {n : Nat} : ∀ (d : Nat) (M : Nat -> Nat -> Rat) (k : Nat),k + d + 1 < n -> (∀ b,M k b = M (k + d + 1) b) -> Zbt n M = 0:=by
 intro d
 induction d with
 | zero=>intro M k hk h;exact Zn6 hk (fun b=>(h b).symm)
 | succ d ih =>
  intro M k hk h;have h1:=Zmu (n:=n) (k:=k + d + 1) (l:=k + d + 2) (by omega) (by omega) (by omega) (fun M h=>Zn6 (k:=k + d + 1) (by omega) (fun b=>(h b).symm)) M (M (k + d + 1)) (M (k + d + 2));rw [Zes,Zes] at h1;rw [h1,ih _ k (by omega)]
  ·grind
  ·intro b
   have:=h b;rw [show k + (d + 1) + 1 = k + d + 2 by omega] at this;simp only [Zac];rw [if_neg (by omega),if_neg (by omega),if_neg (by omega)]
   simpa using this
theorem Zj7 {n : Nat} {M : Nat -> Nat -> Rat} {k l : Nat} (hk : k < n) (hl : l < n) (hne : k ≠ l) (h : ∀ b,M k b = M l b) : Zbt n M = 0:=by
 rcases Nat.lt_or_gt_of_ne hne with h1 | h1
 ·exact Zi3 (l - k - 1) M k (by omega) (fun b=>by rw [show k + (l - k - 1) + 1 = l by omega];exact h b)
 ·exact Zi3 (k - l - 1) M l (by omega) (fun b=>by rw [show l + (k - l - 1) + 1 = k by omega];exact (h b).symm)
def Zd0 : Nat -> (Nat -> Rat) -> Rat
 | 0,_=>1
 | n + 1,f=>Zd0 n f * f n
theorem Ziw {n : Nat} {f g : Nat -> Rat} (h : ∀ i,i < n -> f i = g i) : Zd0 n f = Zd0 n g:=by
 induction n with
 | zero=>rfl
 | succ n ih=>simp only [Zd0];rw [ih (fun i hi=>h i (by omega)),h n (by omega)]
theorem Znm {n : Nat} (f : Nat -> Rat) : Zd0 (n + 1) f = f 0 * Zd0 n (fun i=>f (i + 1)):=by
 induction n generalizing f with
 | zero=>simp only [Zd0];grind
 | succ n ih=>rw [Zd0,ih,Zd0];grind
theorem Ztv {n : Nat} {M : Nat -> Nat -> Rat} (h : ∀ a b,a < n -> b < a -> M a b = 0) : Zbt n M = Zd0 n (fun i=>M i i):=by
 induction n generalizing M with
 | zero=>rfl
 | succ n ih =>
  simp only [Zbt];rw [Zd8 0 (by omega)]
  ·rw [Znm,ih]
   ·have : Zih 0 = 1:=rfl
    rw [this,Ziw (g:=fun i=>M (i + 1) (i + 1)) (fun i hi=>by simp only [Zay];rw [if_neg (by omega)])];grind
   ·intro a b ha hb
    simp only [Zay];rw [if_neg (by omega)];exact h _ _ (by omega) (by omega)
  ·intro i hi h0
   rw [h i 0 hi (by omega)];grind
def BndQ (B : Nat) (q : Rat) : Prop:=∃ z : Int,q = (z : Rat) /\ z.natAbs <= B
theorem BndQ.add {B C : Nat} {p q : Rat} (h : BndQ B p) (k : BndQ C q) : BndQ (B + C) (p + q):=by
 obtain ⟨a,rfl,h1⟩:=h;obtain ⟨b,rfl,h2⟩:=k;exact ⟨a + b,by rw [Rat.intCast_add],by omega⟩
theorem BndQ.mul {B C : Nat} {p q : Rat} (h : BndQ B p) (k : BndQ C q) : BndQ (B * C) (p * q):=by
 obtain ⟨a,rfl,h1⟩:=h;obtain ⟨b,rfl,h2⟩:=k;exact ⟨a * b,by rw [Rat.intCast_mul],by rw [Int.natAbs_mul];exact Nat.mul_le_mul h1 h2⟩
theorem BndQ.mono {B C : Nat} {q : Rat} (h : BndQ B q) (hBC : B <= C) : BndQ C q:=by obtain ⟨a,h1,h2⟩:=h;exact ⟨a,h1,by omega⟩
def Zfo (B : Nat) : Nat -> Nat
 | 0=>1
 | n + 1=>(n + 1) * (B * Zfo B n)
theorem Ztr {B n : Nat} {f : Nat -> Rat} (h : ∀ i,i < n -> BndQ B (f i)) : BndQ (n * B) (Zar n f):=by
 induction n with
 | zero=>exact ⟨0,rfl,by simp⟩
 | succ n ih=>rw [Nat.succ_mul];exact (ih fun i hi=>h i (by omega)).add (h n (by omega))
theorem Znr (i : Nat) : BndQ 1 (Zih i):=by unfold Zih;split;exact ⟨1,rfl,by decide⟩;exact ⟨-1,rfl,by decide⟩
theorem Zsr {B n : Nat} {M : Nat -> Nat -> Rat} (h : ∀ a b,a < n -> b < n -> BndQ B (M a b)) : BndQ (Zfo B n) (Zbt n M):=by
 induction n generalizing M with
 | zero=>exact ⟨1,rfl,by simp [Zfo]⟩
 | succ n ih =>
  simp only [Zbt,Zfo]
  refine Ztr fun i hi=>?_
  have:=((Znr i).mul (h i 0 hi (by omega))).mul (ih (M:=fun a b=>M (Zay i a) (b + 1)) fun a b ha hb=>h _ _ (Zj8 ha) (by omega))
  rwa [Nat.one_mul] at this
theorem Zro {B m n : Nat} (hB : 1 <= B) (h : m <= n) : Zfo B m <= Zfo B n:=by
 induction n with
 | zero=>obtain rfl : m = 0:=by omega
         exact Nat.le_refl _
 | succ n ih =>
  by_cases hm : m = n + 1
  ·rw [hm];exact Nat.le_refl _
  ·refine Nat.le_trans (ih (by omega)) ?_
   simp only [Zfo]
   calc Zfo B n = 1 * (1 * Zfo B n):=by simp
    _ <= (n + 1) * (B * Zfo B n):=Nat.mul_le_mul (by omega) (Nat.mul_le_mul hB (Nat.le_refl _))
section
variable {B S n m col r : Nat} {R : List (List Rat)} {pc : Nat -> Nat} {G : Nat -> Nat -> Rat} {s : Nat -> Rat}
end
section
variable {B S n m : Nat}
end
structure AltF (n : Nat) (F : (Nat -> Nat -> Rat) -> Rat) : Prop where
 congr : ∀ {M N : Nat -> Nat -> Rat},(∀ a b,a < n -> b < n -> M a b = N a b) -> F M = F N
 lin : ∀ (M : Nat -> Nat -> Rat) (k : Nat),k < n -> ∀ (r s : Nat -> Rat) (x y : Rat),F (Zac M k (fun b=>x * r b + y * s b)) = x * F (Zac M k r) + y * F (Zac M k s)
 two : ∀ (M : Nat -> Nat -> Rat) (k l : Nat),k < n -> l < n -> k ≠ l -> (∀ b,M k b = M l b) -> F M = 0
theorem AltF.det (n : Nat) : AltF n (Zbt n):=⟨Zde,fun M _ hk r s x y=>Zhk M hk r s x y,fun _ _ _ hk hl hne h=>Zj7 hk hl hne h⟩
section
variable {n : Nat} {F : (Nat -> Nat -> Rat) -> Rat}
theorem AltF.add (h : AltF n F) (M : Nat -> Nat -> Rat) {k : Nat} (hk : k < n) (r s : Nat -> Rat) : F (Zac M k (fun b=>r b + s b)) = F (Zac M k r) + F (Zac M k s):=by
 have:=h.lin M k hk r s 1 1;rw [show (fun b=>r b + s b) = (fun b=>1 * r b + 1 * s b) by funext b;grind,this];grind
theorem AltF.swap (h : AltF n F) {k l : Nat} (hk : k < n) (hl : l < n) (hne : k ≠ l) (M : Nat -> Nat -> Rat) : F (Zac (Zac M k (M l)) l (M k)) = - F M:=by
 obtain ⟨r,hr⟩ : ∃ r,M l = r:=⟨_,rfl⟩;obtain ⟨s,hs⟩ : ∃ s,M k = s:=⟨_,rfl⟩;have h0:=h.two (Zac (Zac M k (fun b=>r b + s b)) l (fun b=>r b + s b)) k l hk hl hne (fun b=>by simp [Zac,hne]);have h1:=h.two (Zac (Zac M k r) l r) k l hk hl hne (fun b=>by simp [Zac,hne]);have h2:=h.two (Zac (Zac M k s) l s) k l hk hl hne (fun b=>by simp [Zac,hne]);rw [h.add _ hl,Zbi _ hne,Zbi _ hne,h.add _ hk,h.add _ hk,<- Zbi _ hne,<- Zbi _ hne,<- Zbi _ hne,<- Zbi _ hne,h1,h2] at h0;rw [hr,hs]
 have e : Zac (Zac M k s) l r = M:=by rw [<- hs,Zes,<- hr,Zes]
 rw [e] at h0
 grind
theorem AltF.addrow (h : AltF n F) (M : Nat -> Nat -> Rat) {k l : Nat} (hk : k < n) (hl : l < n) (hne : k ≠ l) (c : Rat) : F (Zac M k (fun b=>M k b + c * M l b)) = F M:=by
 have h1:=h.lin M k hk (M k) (M l) 1 c
 rw [show (fun b=>M k b + c * M l b) = (fun b=>1 * M k b + c * M l b) by funext b;grind,h1,Zes,
  h.two (Zac M k (M l)) k l hk hl hne (fun b=>by simp [Zac,Ne.symm hne])]
 grind
theorem AltF.clear (h : AltF n F) (M : Nat -> Nat -> Rat) {l : Nat} (hl : l < n) (c : Nat -> Rat) : F (fun a b=>if a = l then M a b else M a b + c a * M l b) = F M:=by
 have key : ∀ m,m <= n -> F (fun a b=>if a = l then M a b else if a < m then M a b + c a * M l b else M a b) = F M:=by
  intro m
  induction m with
  | zero=>intro _;exact h.congr fun a b _ _=>by split <;> rfl
  | succ m ih =>
   intro hm;have h0:=ih (by omega)
   by_cases hml : m = l
   ·rw [<- h0];refine h.congr fun a b _ _=>?_
    by_cases ha : a = l
    ·simp [ha]
    ·rw [if_neg ha,if_neg ha]
     by_cases h1 : a < m
     ·rw [if_pos h1,if_pos (by omega)]
     ·rw [if_neg h1,if_neg (by omega)]
   ·have h1:=h.addrow (fun a b=>if a = l then M a b else if a < m then M a b + c a * M l b else M a b) (k:=m) (l:=l) (by omega) hl hml (c m)
    rw [h0] at h1
    rw [<- h1];refine h.congr fun a b _ _=>?_
    unfold Zac
    by_cases ha : a = m
    ·subst ha;simp [hml]
    ·rw [if_neg ha]
     by_cases hal : a = l
     ·simp [hal]
     ·rw [if_neg hal]
      by_cases h1 : a < m
      ·rw [if_pos (by omega)];simp [hal,h1]
      ·rw [if_neg (by omega)];simp [hal,h1]
 rw [<- key n (Nat.le_refl _)]
 exact h.congr fun a b ha hb=>by rw [if_pos ha]
end
theorem Zte (n : Nat) (A : Nat -> Nat -> Rat) : ∀ c,c <= n -> ∃ (U : Nat -> Nat -> Rat) (e : Rat),(∀ i j,i < n -> j < c -> j < i -> U i j = 0) /\ ∀ F,AltF n F -> F A = e * F U:=by
 intro c
 induction c with
 | zero=>intro _;exact ⟨A,1,fun i j _ h=>by omega,fun F _=>by grind⟩
 | succ c ih =>
  intro hc;obtain ⟨U,e,h1,h2⟩:=ih (by omega)
  have clr : ∀ V : Nat -> Nat -> Rat,(∀ i j,i < n -> j < c -> j < i -> V i j = 0) -> V c c ≠ 0 -> ∃ (U : Nat -> Nat -> Rat),(∀ i j,i < n -> j < c + 1 -> j < i -> U i j = 0) /\ ∀ F,AltF n F -> F V = F U:=by
   intro V hV hp;refine ⟨fun a b=>if a = c then V a b else V a b + (if a < c then 0 else -(V a c / V c c)) * V c b,fun i j hi hj hji=>?_,fun F hF=>(hF.clear V (by omega) _).symm⟩
   by_cases hic : i = c
   ·subst hic;simp only [if_true];exact hV i j hi (by omega) hji
   ·simp only [if_neg hic]
    by_cases hlt : i < c
    ·rw [if_pos hlt,hV i j hi (by omega) hji];grind
    ·rw [if_neg hlt]
     by_cases hjc : j = c
     ·subst hjc;grind
     ·rw [hV i j hi (by omega) hji,hV c j (by omega) (by omega) (by omega)];grind
  by_cases hz : ∀ i,c < i -> i < n -> U i c = 0
  ·refine ⟨U,e,fun i j hi hj hji=>?_,h2⟩
   by_cases hjc : j = c
   ·subst hjc;exact hz i hji hi
   ·exact h1 i j hi (by omega) hji
  ·by_cases hp : U c c = 0
   ·obtain ⟨k,hk1,hk2,hk3⟩ : ∃ k,c < k /\ k < n /\ U k c ≠ 0:=by
      refine Classical.byContradiction fun hn=>hz fun i h1 h2=>Classical.byContradiction fun h3=>hn ⟨i,h1,h2,h3⟩
    obtain ⟨V,hV1,hV2⟩:=clr (Zac (Zac U c (U k)) k (U c)) (fun i j hi hj hji=>by
     unfold Zac
     by_cases hik : i = k
     ·rw [if_pos hik];exact h1 c j (by omega) hj (by omega)
     ·rw [if_neg hik]
      by_cases hic : i = c
      ·rw [if_pos hic];exact h1 k j hk2 hj (by omega)
      ·rw [if_neg hic];exact h1 i j hi hj hji) (by
     unfold Zac
     rw [if_neg (by omega),if_pos rfl];exact hk3)
    refine ⟨V,-e,hV1,fun F hF=>?_⟩;rw [h2 F hF,<- hV2 F hF,hF.swap (by omega) hk2 (by omega)];grind
   ·obtain ⟨V,hV1,hV2⟩:=clr U h1 hp
    exact ⟨V,e,hV1,fun F hF=>by rw [h2 F hF,hV2 F hF]⟩
def Zbf (a b : Nat) : Rat:=if a = b then 1 else 0
theorem AltF.tri {n : Nat} {F : (Nat -> Nat -> Rat) -> Rat} (h : AltF n F) : ∀ t,t <= n -> ∀ U : Nat -> Nat -> Rat,(∀ i j,i < n -> j < i -> U i j = 0) -> (∀ i j,t <= i -> i < n -> U i j = Zbf i j) -> F U = Zd0 t (fun i=>U i i) * F Zbf
 | 0,_,U,_,h2=>by
  rw [h.congr (N:=Zbf) (fun a b ha hb=>h2 a b (Nat.zero_le _) ha)];simp only [Zd0];grind
 | t + 1,ht,U,h1,h2=>by
  -- row t is cleared by the rows behind it
  have key : ∀ c,c <= n -> F (Zac U t (fun b=>if t < b /\ b < c then 0 else U t b)) = F U:=by
   intro c
   induction c with
   | zero=>intro _;refine h.congr fun a b _ _=>?_
           unfold Zac
           by_cases ha : a = t
           ·rw [if_pos ha,ha];simp only [Nat.not_lt_zero,and_false,if_false]
           ·rw [if_neg ha]
   | succ c ih =>
    intro hc;have h0:=ih (by omega)
    by_cases htc : t < c
    ·have h3:=h.addrow (Zac U t (fun b=>if t < b /\ b < c then 0 else U t b)) (k:=t) (l:=c) (by omega) (by omega) (by omega) (-(U t c))
     rw [h0] at h3;rw [<- h3]
     refine h.congr fun a b _ hb=>?_
     unfold Zac
     by_cases ha : a = t
     ·subst ha
      simp only [if_true];rw [if_neg (by omega : ¬ c = a),h2 c b (by omega) (by omega)];unfold Zbf
      by_cases hbc : c = b
      ·subst hbc;rw [if_pos (by omega),if_neg (by omega),if_pos rfl];grind
      ·rw [if_neg hbc]
       by_cases hb2 : a < b /\ b < c
       ·rw [if_pos (by omega),if_pos hb2];grind
       ·rw [if_neg (by omega),if_neg hb2];grind
     ·rw [if_neg ha,if_neg ha,if_neg ha]
    ·rw [<- h0]
     refine h.congr fun a b _ _=>?_
     unfold Zac
     by_cases ha : a = t
     ·rw [if_pos ha,if_pos ha]
      simp only [if_neg (show ¬ (t < b /\ b < c + 1) by omega),if_neg (show ¬ (t < b /\ b < c) by omega)]
     ·rw [if_neg ha,if_neg ha]
  have hk:=key n (Nat.le_refl _);have hs:=h.lin U t (by omega) (Zbf t) (Zbf t) (U t t) 0
  have e1 : F (Zac U t (fun b=>if t < b /\ b < n then 0 else U t b)) = F (Zac U t (fun b=>U t t * Zbf t b + 0 * Zbf t b)):=by
   refine h.congr fun a b _ hb=>?_
   unfold Zac
   by_cases ha : a = t
   ·rw [if_pos ha,if_pos ha]
    unfold Zbf;simp only
    by_cases hb1 : t = b
    ·subst hb1;rw [if_neg (by omega),if_pos rfl];grind
    ·rw [if_neg hb1]
     by_cases hb2 : t < b
     ·rw [if_pos ⟨hb2,hb⟩];grind
     ·rw [if_neg (by omega),h1 t b (by omega) (by omega)];grind
   ·rw [if_neg ha,if_neg ha]
  have ih:=h.tri t (by omega) (Zac U t (Zbf t)) (fun i j hi hji=>by
   unfold Zac Zbf;split
   ·rw [if_neg (by omega)]
   ·exact h1 i j hi hji) (fun i j hti hi=>by
   unfold Zac;split
   ·rename_i h;rw [h]
   ·exact h2 i j (by omega) hi)
  rw [<- hk,e1,hs,ih];rw [Zd0,Ziw (f:=fun i=>Zac U t (Zbf t) i i) (g:=fun i=>U i i) (fun i hi=>by unfold Zac;rw [if_neg (by omega)])]
  grind
theorem Zs1 (n : Nat) : Zbt n Zbf = 1:=by
 rw [Ztv (fun a b _ h=>by unfold Zbf;rw [if_neg (by omega)])]
 have : ∀ m,Zd0 m (fun i=>Zbf i i) = 1:=by
  intro m
  induction m with
  | zero=>rfl
  | succ m ih=>simp only [Zd0];rw [ih];unfold Zbf;rw [if_pos rfl];grind
 exact this n
theorem AltF.eq {n : Nat} {F : (Nat -> Nat -> Rat) -> Rat} (h : AltF n F) (A : Nat -> Nat -> Rat) : F A = Zbt n A * F Zbf:=by
 obtain ⟨U,e,h1,h2⟩:=Zte n A n (Nat.le_refl _);have h3:=h.tri n (Nat.le_refl _) U (fun i j hi hj=>h1 i j hi (by omega) hj) (fun i j h1 h2=>by omega);have h4:=(AltF.det n).tri n (Nat.le_refl _) U (fun i j hi hj=>h1 i j hi (by omega) hj) (fun i j h1 h2=>by omega);rw [h2 F h,h2 _ (AltF.det n),h3,h4,Zs1];grind
def Zmz (k : Nat) (A B : Nat -> Nat -> Rat) : Nat -> Nat -> Rat:=fun i j=>Zar k (fun l=>A i l * B l j)
theorem det_mul (n : Nat) (A B : Nat -> Nat -> Rat) : Zbt n (Zmz n A B) = Zbt n A * Zbt n B:=by
 have hF : AltF n (fun M=>Zbt n (Zmz n M B)):=by
  refine ⟨fun {M N} h=>Zde fun a b ha hb=>Zaq fun l hl=>by rw [h a l ha hl],fun M k hk r s x y=>?_,fun M k l hk hl hne h=>Zj7 hk hl hne (fun b=>Zaq fun i hi=>by rw [h i])⟩
  have e : ∀ q : Nat -> Rat,Zmz n (Zac M k q) B = Zac (Zmz n M B) k (fun b=>Zar n (fun l=>q l * B l b)):=by
   intro q
   funext a b
   unfold Zmz Zac
   by_cases ha : a = k
   ·rw [if_pos ha];refine Zaq fun l _=>by rw [if_pos ha]
   ·rw [if_neg ha];refine Zaq fun l _=>by rw [if_neg ha]
  rw [e,e,e,<- Zhk (Zmz n M B) hk]
  congr 2
  funext b
  rw [<- Zhp]
  exact Zaq fun l _=>by grind
 have:=hF.eq A;rw [this]
 congr 1
 refine Zde fun a b ha hb=>?_
 unfold Zmz;rw [Zd8 a ha (fun i _ hi=>by unfold Zbf;rw [if_neg (Ne.symm hi)];grind)];unfold Zbf;rw [if_pos rfl];grind
theorem Zo4 {n m : Nat} (f : Nat -> Nat -> Rat) : Zar n (fun r=>Zar m (fun k=>f r k)) = Zar m (fun k=>Zar n (fun r=>f r k)):=by
 induction n with
 | zero=>exact (Zig fun _ _=>rfl).symm
 | succ n ih =>
  show Zar n (fun r=>Zar m (fun k=>f r k)) + Zar m (fun k=>f n k) = _;rw [ih];have h:=Zhp (n:=m) (fun k=>Zar n (fun r=>f r k)) (fun k=>f n k) 1 1;rw [show Zar m (fun k=>Zar n (fun r=>f r k)) + Zar m (fun k=>f n k) = 1 * Zar m (fun k=>Zar n (fun r=>f r k)) + 1 * Zar m (fun k=>f n k) by grind,<- h]
  refine Zaq fun k _=>?_
  show 1 * Zar n (fun r=>f r k) + 1 * f n k = Zar n (fun r=>f r k) + f n k
  grind
theorem Zrc {n : Nat} (f : Nat -> Rat) (c : Rat) : Zar n (fun i=>c * f i) = c * Zar n f:=by
 have h:=Zhp (n:=n) f (fun _=>0) c 0;rw [show c * Zar n f = c * Zar n f + 0 * Zar n (fun _=>0) by grind,<- h]
 exact Zaq fun i _=>by grind
theorem Zqh {n : Nat} {M : Nat -> Nat -> Rat} {k l : Nat} (hk : k < n) (hl : l < n) (hne : k ≠ l) (h : ∀ a,a < n -> M a k = M a l) : Zbt n M = 0:=by
 have h1 : Zbt n (Zmz n M (fun a b=>if a = l then 0 else if b = l then (if a = k then 1 else 0) else Zbf a b)) = Zbt n M:=by
  refine Zde fun a b ha hb=>?_
  unfold Zmz
  by_cases hbl : b = l
  ·rw [Zd8 k hk (fun i hi hik=>by
     show M a i * (if i = l then 0 else if b = l then (if i = k then 1 else 0) else Zbf i b) = 0;rw [if_pos hbl,if_neg hik]
     split <;> grind)]
   show M a k * (if k = l then 0 else if b = l then (if k = k then 1 else 0) else Zbf k b) = M a b;rw [if_neg hne,if_pos hbl,if_pos rfl,h a ha,hbl]
   grind
  ·rw [Zd8 b hb (fun i hi hik=>by
     show M a i * (if i = l then 0 else if b = l then (if i = k then 1 else 0) else Zbf i b) = 0;rw [if_neg hbl];unfold Zbf;rw [if_neg hik]
     split <;> grind)]
   show M a b * (if b = l then 0 else if b = l then (if b = k then 1 else 0) else Zbf b b) = M a b;rw [if_neg hbl,if_neg hbl];unfold Zbf;rw [if_pos rfl]
   grind
 rw [<- h1,det_mul]
 have h2 : Zbt n (fun a b=>if a = l then 0 else if b = l then (if a = k then 1 else 0) else Zbf a b) = 0:=by
  have h3:=Zhk (n:=n) (fun a b=>if a = l then 0 else if b = l then (if a = k then 1 else 0) else Zbf a b) hl (fun _=>0) (fun _=>0) 0 0
  have h4 : Zac (fun a b=>if a = l then 0 else if b = l then (if a = k then 1 else 0) else Zbf a b) l (fun b=>(0 : Rat) * 0 + 0 * 0) = (fun a b=>if a = l then 0 else if b = l then (if a = k then 1 else 0) else Zbf a b):=by
   funext a b
   unfold Zac
   by_cases hal : a = l
   ·rw [if_pos hal,if_pos hal];grind
   ·rw [if_neg hal]
  rw [h4] at h3;rw [h3]
  grind
 rw [h2]
 grind
theorem Zpl : ∀ (N r : Nat) (f : Nat -> Nat),N < r -> (∀ b,b < r -> f b < N) -> ∃ b b',b < b' /\ b' < r /\ f b = f b'
 | 0,r,f,hr,hf=>absurd (hf 0 hr) (by omega)
 | N + 1,r,f,hr,hf=>by
  obtain ⟨r,rfl⟩ : ∃ s,r = s + 1:=⟨r - 1,by omega⟩
  by_cases h : ∃ b,b < r /\ f b = f r
  ·obtain ⟨b,hb,h1⟩:=h
   exact ⟨b,r,hb,by omega,h1⟩
  ·have hne : ∀ b,b < r -> f b ≠ f r:=fun b hb he=>h ⟨b,hb,he⟩
   have hfr:=hf r (by omega)
   obtain ⟨b,b',h1,h2,h3⟩:=Zpl N r (fun b=>if f r < f b then f b - 1 else f b) (by omega) (fun b hb=>by
    have h4:=hf b (by omega);have h5:=hne b hb;show (if f r < f b then f b - 1 else f b) < N
    split <;> omega)
   refine ⟨b,b',h1,by omega,?_⟩;have h4:=hne b (by omega);have h5:=hne b' h2;(try simp only at h3)
   split at h3 <;> split at h3 <;> omega
theorem missed {N r : Nat} (f : Nat -> Nat) (hr : r < N) : ∃ c,c < N /\ ∀ a,a < r -> f a ≠ c:=by
 apply Classical.byContradiction
 intro h
 have h1 : ∀ c,c < N -> ∃ a,a < r /\ f a = c:=fun c hc=>by
  apply Classical.byContradiction
  intro h2;exact h ⟨c,hc,fun a ha he=>h2 ⟨a,ha,he⟩⟩
 obtain ⟨g,hg⟩ : ∃ g : Nat -> Nat,∀ c,c < N -> g c < r /\ f (g c) = c:=by
  refine ⟨fun c=>if hc : c < N then Classical.choose (h1 c hc) else 0,fun c hc=>?_⟩;simp only [dif_pos hc];exact Classical.choose_spec (h1 c hc)
 obtain ⟨b,b',h3,h4,h5⟩:=Zpl r N g hr (fun b hb=>(hg b hb).1);have h6:=(hg b (by omega)).2;have h7:=(hg b' h4).2;rw [h5] at h6;omega
theorem sgnQ_ne (i : Nat) : Zih i ≠ 0:=by unfold Zih;split <;> decide
theorem Zim {N1 N2 B : Nat} (A : Nat -> Nat -> Rat) (h : N1 < N2) (hB1 : 1 <= B) (hB : ∀ i j,i < N1 -> j < N2 -> BndQ B (A i j)) :
    ∃ x : Nat -> Rat,(∃ j,j < N2 /\ x j ≠ 0) /\ (∀ i,i < N1 -> Zar N2 (fun j=>A i j * x j) = 0) /\ ∀ j,BndQ (Zfo B N1) (x j):=by
 have hex : ∃ r,r <= N1 /\ (∃ σ τ : Nat -> Nat,(∀ b,b < r -> σ b < N1) /\ (∀ a,a < r -> τ a < N2) /\ Zbt r (fun a b=>A (σ b) (τ a)) ≠ 0) /\
     ∀ σ τ : Nat -> Nat,(∀ b,b < r + 1 -> σ b < N1) -> (∀ a,a < r + 1 -> τ a < N2) -> Zbt (r + 1) (fun a b=>A (σ b) (τ a)) = 0:=by
  apply Classical.byContradiction
  intro hno
  have hall : ∀ r,r <= N1 + 1 -> ∃ σ τ : Nat -> Nat,(∀ b,b < r -> σ b < N1) /\ (∀ a,a < r -> τ a < N2) /\ Zbt r (fun a b=>A (σ b) (τ a)) ≠ 0:=by
   intro r
   induction r with
   | zero=>exact fun _=>⟨fun _=>0,fun _=>0,fun b hb=>by omega,fun a ha=>by omega,by show (1 : Rat) ≠ 0;decide⟩
   | succ r ih =>
    intro hr
    apply Classical.byContradiction
    intro h2;refine hno ⟨r,by omega,ih (by omega),fun σ τ h3 h4=>?_⟩
    apply Classical.byContradiction
    intro h5;exact h2 ⟨σ,τ,h3,h4,h5⟩
  obtain ⟨σ,τ,h1,h2,h3⟩:=hall (N1 + 1) (Nat.le_refl _);obtain ⟨b,b',h4,h5,h6⟩:=Zpl N1 (N1 + 1) σ (by omega) h1;exact h3 (Zqh (k:=b) (l:=b') (by omega) h5 (by omega) (fun a _=>by rw [h6]))
 obtain ⟨r,hr,⟨σ,τ,h1,h2,h3⟩,hmax⟩:=hex
 have hinj : ∀ a a',a < r -> a' < r -> a ≠ a' -> τ a ≠ τ a':=fun a a' ha ha' hne he=>h3 (Zj7 (k:=a) (l:=a') ha ha' hne (fun b=>by rw [he]))
 obtain ⟨c,hc,hc2⟩:=missed τ (show r < N2 by omega)
 obtain ⟨t,ht⟩ : ∃ t : Nat -> Nat,t = fun a=>if a < r then τ a else c:=⟨_,rfl⟩
 have htlt : ∀ a,a < r + 1 -> t a < N2:=fun a ha=>by
  rw [ht];show (if a < r then τ a else c) < N2
  split
  ·rename_i h5;exact h2 a h5
  ·exact hc
 have htr : t r = c:=by rw [ht];show (if r < r then _ else c) = c;rw [if_neg (by omega)]
 have htl : ∀ a,a < r -> t a = τ a:=fun a ha=>by rw [ht];show (if a < r then _ else c) = _;rw [if_pos ha]
 have htinj : ∀ a a',a < r + 1 -> a' < r + 1 -> t a = t a' -> a = a':=fun a a' ha ha' he=>by
  rcases Nat.lt_or_ge a r with h5 | h5 <;> rcases Nat.lt_or_ge a' r with h6 | h6
  ·rw [htl a h5,htl a' h6] at he
   apply Classical.byContradiction
   intro hne;exact hinj a a' h5 h6 hne he
  ·obtain rfl : a' = r:=by omega
   rw [htl a h5,htr] at he;exact absurd he (hc2 a h5)
  ·obtain rfl : a = r:=by omega
   rw [htl a' h6,htr] at he;exact absurd he.symm (hc2 a' h6)
  ·omega
 obtain ⟨m,hm⟩ : ∃ m : Nat -> Rat,m = fun a=>Zih a * Zbt r (fun a' b'=>A (σ b') (t (Zay a a'))):=⟨_,rfl⟩
 have hmb : ∀ a,a < r + 1 -> BndQ (Zfo B N1) (m a):=fun a ha=>by
  rw [hm];have h5:=Zsr (B:=B) (n:=r) (M:=fun a' b'=>A (σ b') (t (Zay a a'))) (fun a' b' ha' hb'=>hB _ _ (h1 b' hb') (htlt _ (Zj8 ha')));have h6:=((Znr a).mul h5).mono (C:=Zfo B N1) (by rw [Nat.one_mul];exact Zro hB1 hr);exact h6
 have hsum : ∀ i,i < N1 -> Zar (r + 1) (fun a=>A i (t a) * m a) = 0:=fun i hi=>by
  have h5:=hmax (fun b=>if b = 0 then i else σ (b - 1)) t (fun b hb=>by
   show (if b = 0 then i else σ (b - 1)) < N1
   split
   ·exact hi
   ·exact h1 _ (by omega)) htlt
  rw [<- h5]
  show _ = Zar (r + 1) fun a=>Zih a * A (if (0 : Nat) = 0 then i else σ (0 - 1)) (t a) * Zbt r (fun a' b'=>A (if b' + 1 = 0 then i else σ (b' + 1 - 1)) (t (Zay a a')))
  refine Zaq fun a _=>?_
  rw [if_pos rfl,hm];show A i (t a) * (Zih a * _) = _
  have h6 : Zbt r (fun a' b'=>A (if b' + 1 = 0 then i else σ (b' + 1 - 1)) (t (Zay a a'))) = Zbt r (fun a' b'=>A (σ b') (t (Zay a a'))):=Zde fun a' b' _ _=>by
   rw [if_neg (by omega),Nat.add_sub_cancel]
  rw [h6]
  grind
 have hpick : ∀ a,a < r + 1 -> Zar (r + 1) (fun a'=>if t a' = t a then m a' else 0) = m a:=fun a ha=>by
  rw [Zd8 a ha (fun i hi hne=>if_neg (fun he=>hne (htinj i a hi ha he))),if_pos rfl]
 refine ⟨fun j=>Zar (r + 1) (fun a=>if t a = j then m a else 0),⟨c,hc,?_⟩,fun i hi=>?_,fun j=>?_⟩
 ·show Zar (r + 1) (fun a=>if t a = c then m a else 0) ≠ 0
  rw [<- htr,hpick r (by omega),hm];show Zih r * _ ≠ 0
  have h5 : Zbt r (fun a' b'=>A (σ b') (t (Zay r a'))) = Zbt r (fun a b=>A (σ b) (τ a)):=Zde fun a' b' ha' _=>by
   rw [show Zay r a' = a' by unfold Zay;rw [if_pos ha'],htl a' ha']
  rw [h5];intro h6
  rcases Rat.mul_eq_zero.1 h6 with h7 | h7
  ·exact sgnQ_ne r h7
  ·exact h3 h7
 ·show Zar N2 (fun j=>A i j * Zar (r + 1) (fun a=>if t a = j then m a else 0)) = 0
  rw [Zaq (g:=fun j=>Zar (r + 1) (fun a=>A i j * (if t a = j then m a else 0))) (fun j _=>(Zrc _ _).symm),Zo4,<- hsum i hi]
  refine Zaq fun a ha=>?_
  rw [Zd8 (t a) (htlt a ha) (fun j _ hne=>by rw [if_neg (fun he=>hne he.symm)];grind),if_pos rfl]
 ·show BndQ _ (Zar (r + 1) (fun a=>if t a = j then m a else 0))
  by_cases hj : ∃ a,a < r + 1 /\ t a = j
  ·obtain ⟨a,ha,rfl⟩:=hj
   rw [hpick a ha];exact hmb a ha
  ·rw [Zig fun a ha=>if_neg fun he=>hj ⟨a,ha,he⟩]
   exact ⟨0,rfl,Nat.zero_le _⟩
theorem PF.mul1 {n m : Nat} {f g : Rat -> Rat} (h : PF (n + 1) f) (k : PF (m + 1) g) : PF (n + m + 1) (fun x=>f x * g x):=by
 obtain ⟨p,h1,h2⟩:=h;obtain ⟨q,k1,k2⟩:=k
 rcases Ziz p q with h3 | rfl | rfl
 ·exact ⟨Zee p q,by omega,fun x=>by show f x * g x = _;rw [h2,k2,Zh1]⟩
 ·exact ⟨[],Nat.zero_le _,fun x=>by show f x * g x = _;rw [h2];show (0 : Rat) * _ = 0;grind⟩
 ·exact ⟨[],Nat.zero_le _,fun x=>by show f x * g x = _;rw [k2];show _ * (0 : Rat) = 0;grind⟩
theorem PF.sub1 {n : Nat} {f g : Rat -> Rat} (h : PF n f) (k : PF n g) : PF n (fun x=>f x - g x):=((h.add (k.smul (-1))).mono (by omega)).congr fun x=>by grind
structure Prs (P Q a b : List Int) : Prop where
 top : Top a
 len : b.length < a.length
 ep : a.length <= P.length
 eq : a.length <= Q.length
 ex : ∃ (s t u v : Rat -> Rat) (c : Rat),c ≠ 0 /\ PF (Q.length - a.length + 1) s /\ PF (P.length - a.length + 1) t /\ PF (Q.length - a.length + 1) u /\ PF (P.length - a.length + 1) v /\
  (∀ x,Ze a x = s x * Ze P x + t x * Ze Q x) /\ (∀ x,Ze b x = u x * Ze P x + v x * Ze Q x) /\ ∀ x,s x * v x - t x * u x = c
section
variable {P Q a b : List Int}
theorem Zjh {σ : Rat} (h : σ ≠ 0) : ∃ τ : Rat,τ * σ = 1 /\ τ ≠ 0:=⟨1 / σ,by grind,by grind⟩
theorem Prs.step (h : Prs P Q a b) (hb : Top b) {q : Rat -> Rat} {r : List Int} {d σ : Rat} (hd : d ≠ 0) (hσ : σ ≠ 0) (hq : PF (a.length - b.length + 1) q) (hr : ∀ x,q x * Ze b x + σ * Ze r x = d * Ze a x) (hl : r.length < b.length) : Prs P Q b r:=by
 obtain ⟨h1,h2,h3,h4,s,t,u,v,c,h5,h6,h7,h8,h9,e1,e2,e3⟩:=h;obtain ⟨τ,hτ,hτ0⟩:=Zjh hσ;refine ⟨hb,hl,by omega,by omega,u,v,fun x=>τ * (d * s x - q x * u x),fun x=>τ * (d * t x - q x * v x),-(τ * d * c),?_,h8.mono (by omega),h9.mono (by omega),?_,?_,e2,fun x=>?_,fun x=>?_⟩
 ·intro h0
  have h10 : τ * d * c = 0:=by grind
  rcases Rat.mul_eq_zero.1 h10 with h11 | h11
  ·rcases Rat.mul_eq_zero.1 h11 with h12 | h12
   ·exact hτ0 h12
   ·exact hd h12
  ·exact h5 h11
 ·exact (((h6.mono (by omega)).smul d).sub1 ((hq.mul1 h8).mono (by omega))).smul τ
 ·exact (((h7.mono (by omega)).smul d).sub1 ((hq.mul1 h9).mono (by omega))).smul τ
 ·have h10:=hr x
  rw [e1 x,e2 x] at h10
  have h11 : Ze r x = τ * σ * Ze r x:=by rw [hτ];grind
  have h12 : σ * Ze r x = d * (s x * Ze P x + t x * Ze Q x) - q x * (u x * Ze P x + v x * Ze Q x):=by grind
  rw [h11,Rat.mul_assoc,h12]
  grind
 ·have h10:=e3 x
  have h11 : u x * (τ * (d * t x - q x * v x)) - v x * (τ * (d * s x - q x * u x)) = -(τ * d * (s x * v x - t x * u x)):=by grind
  rw [h11,h10]
theorem Prs.start (hQ : Top Q) (hPQ : Q.length <= P.length) {q : Rat -> Rat} {r : List Int} {d σ : Rat} (hd : d ≠ 0) (hσ : σ ≠ 0) (hq : PF (P.length - Q.length + 1) q) (hr : ∀ x,q x * Ze Q x + σ * Ze r x = d * Ze P x) (hl : r.length < Q.length) : Prs P Q Q r:=by
 obtain ⟨τ,hτ,hτ0⟩:=Zjh hσ;refine ⟨hQ,hl,hPQ,Nat.le_refl _,fun _=>0,fun _=>1,fun _=>τ * d,fun x=>-τ * q x,-(τ * d),?_,(PF.const 0).mono (by omega),(PF.const 1).mono (by omega),(PF.const _).mono (by omega),hq.smul _,fun x=>by grind,fun x=>?_,fun x=>by grind⟩
 ·intro h0
  have h10 : τ * d = 0:=by grind
  rcases Rat.mul_eq_zero.1 h10 with h12 | h12
  ·exact hτ0 h12
  ·exact hd h12
 ·have h10:=hr x
  have h11 : Ze r x = τ * σ * Ze r x:=by rw [hτ];grind
  have h12 : σ * Ze r x = d * Ze P x - q x * Ze Q x:=by grind
  rw [h11,Rat.mul_assoc,h12]
  grind
end
theorem Zl9 (f : Nat -> Int) : ∀ n,((Zcr f n : Int) : Rat) = Zar n (fun i=>((f i : Int) : Rat))
 | 0=>rfl
 | n + 1=>by
  show ((Zcr f n + f n : Int) : Rat) = Zar n _ + _;rw [Rat.intCast_add,Zl9 f n]
theorem Zoa (n : Nat) (f : Nat -> Rat) : ∀ m,Zar (n + m) f = Zar n f + Zar m (fun b=>f (n + b))
 | 0=>by show Zar n f = Zar n f + 0;grind
 | m + 1=>by
  show Zar (n + m) f + f (n + m) = Zar n f + (Zar m _ + f (n + m));rw [Zoa n f m];grind
theorem Zhe (f : Nat -> Int) (n i : Nat) : cz ((List.range n).map f) i = if i < n then f i else 0:=by
 unfold cz
 by_cases h : i < n
 ·rw [if_pos h,List.getElem?_map,List.getElem?_range h];rfl
 ·rw [if_neg h,List.getElem?_eq_none (by simpa using h)];rfl
theorem Zsy (f : Nat -> Int) (n : Nat) (P : List Int) (i : Nat) : ((coP ((List.range n).map f) P i : Int) : Rat) = Zar n (fun a=>(if a <= i then ((cz P (i - a) : Int) : Rat) else 0) * ((f a : Int) : Rat)):=by
 obtain ⟨g,hg⟩ : ∃ g : Nat -> Int,g = fun s=>if s <= i then cz ((List.range n).map f) s * cz P (i - s) else 0:=⟨_,rfl⟩
 have h1 : coP ((List.range n).map f) P i = Zcr g (i + 1):=by
  unfold coP
  refine Zor fun s hs=>?_
  rw [hg];show _ = if s <= i then _ else _;rw [if_pos (by omega)];rfl
 have h2 : Zcr g (max (i + 1) n) = Zcr g (i + 1):=Zk6 (by omega) fun s h1 _=>by rw [hg];show (if s <= i then _ else _) = _;rw [if_neg (by omega)]
 have h3 : Zcr g (max (i + 1) n) = Zcr g n:=Zk6 (by omega) fun s h1 _=>by
  rw [hg];show (if s <= i then _ else _) = _
  split
  ·rw [Zhe,if_neg (by omega),Int.zero_mul]
  ·rfl
 rw [h1,<- h2,h3,Zl9]
 refine Zaq fun s hs=>?_
 rw [hg];show (((if s <= i then cz ((List.range n).map f) s * cz P (i - s) else 0 : Int)) : Rat) = _
 by_cases h : s <= i
 ·rw [if_pos h,if_pos h,Zhe,if_pos hs,Rat.intCast_mul,Rat.mul_comm]
 ·rw [if_neg h,if_neg h]
  show ((0 : Int) : Rat) = 0 * _;rw [Rat.zero_mul];rfl
theorem Zpm {U P : List Int} {X B : Nat} (hU : ∀ i,(cz U i).natAbs <= X) (hP : ∀ i,(cz P i).natAbs <= B) (i : Nat) : (coP U P i).natAbs <= (i + 1) * (X * B):=by
 unfold coP
 refine psum_le fun s _=>?_
 rw [Int.natAbs_mul];exact Nat.mul_le_mul (hU s) (hP (i - s))
section
variable {P Q a b : List Int} {B : Nat}
theorem Prs.bound (h : Prs P Q a b) (hQ : Top Q) (hb : Prim b) (hB : 1 <= B) (hP : ∀ i,(cz P i).natAbs <= B) (hQb : ∀ i,(cz Q i).natAbs <= B) {n : Nat} (hn : a.length <= n + 1) (i : Nat) :
    (cz b i).natAbs <= Cn (2 * n) n * (n * (2 * (n * (Zfo B (P.length + Q.length + 1 - 2 * a.length) * B)) * (2 * n) ^ n)):=by
 obtain ⟨h1,h2,h3,h4,s,t,u,v,c,h5,h6,h7,h8,h9,e1,e2,e3⟩:=h;have hb1:=hb.2.1;obtain ⟨E,hE⟩ : ∃ E,a.length = E + 1:=⟨a.length - 1,by omega⟩;obtain ⟨lu,hlu⟩ : ∃ lu,Q.length - a.length + 1 = lu:=⟨_,rfl⟩;obtain ⟨lv,hlv⟩ : ∃ lv,P.length - a.length + 1 = lv:=⟨_,rfl⟩
 have hN : P.length + Q.length + 1 - 2 * a.length = lu + lv - 1:=by omega
 rw [hN];obtain ⟨X,hX⟩ : ∃ X,Zfo B (lu + lv - 1) = X:=⟨_,rfl⟩
 obtain ⟨x,⟨j0,hj0,hx0⟩,hx1,hx2⟩:=Zim (N1:=lu + lv - 1) (N2:=lu + lv) (B:=B) (fun i j=>if j < lu then (if j <= E + i then ((cz P (E + i - j) : Int) : Rat) else 0) else (if j - lu <= E + i then ((cz Q (E + i - (j - lu)) : Int) : Rat) else 0)) (by omega) hB (fun i j _ _=>by
  show BndQ B (if j < lu then (if j <= E + i then ((cz P (E + i - j) : Int) : Rat) else 0) else (if j - lu <= E + i then ((cz Q (E + i - (j - lu)) : Int) : Rat) else 0))
  split
  ·split
   ·exact ⟨_,rfl,hP _⟩
   ·exact ⟨0,rfl,Nat.zero_le _⟩
  ·split
   ·exact ⟨_,rfl,hQb _⟩
   ·exact ⟨0,rfl,Nat.zero_le _⟩)
 rw [hX] at hx2;obtain ⟨z,hz⟩ : ∃ z : Nat -> Int,∀ j,x j = ((z j : Int) : Rat) /\ (z j).natAbs <= X:=⟨fun j=>Classical.choose (hx2 j),fun j=>Classical.choose_spec (hx2 j)⟩;obtain ⟨U,hU⟩ : ∃ U,U = (List.range lu).map z:=⟨_,rfl⟩;obtain ⟨V,hV⟩ : ∃ V,V = (List.range lv).map (fun k=>z (lu + k)):=⟨_,rfl⟩
 have hUl : U.length = lu:=by rw [hU];simp
 have hVl : V.length = lv:=by rw [hV];simp
 have hUz : ∀ k,cz U k = if k < lu then z k else 0:=fun k=>by rw [hU];exact Zhe z lu k
 have hVz : ∀ k,cz V k = if k < lv then z (lu + k) else 0:=fun k=>by rw [hV];exact Zhe _ lv k
 have hUb : ∀ k,(cz U k).natAbs <= X:=fun k=>by
  rw [hUz];split
  ·exact (hz k).2
  ·exact Nat.zero_le _
 have hVb : ∀ k,(cz V k).natAbs <= X:=fun k=>by
  rw [hVz];split
  ·exact (hz _).2
  ·exact Nat.zero_le _
 -- the coefficients from E on vanish
 have hzero : ∀ k,E <= k -> coP U P k + coP V Q k = 0:=fun k hk=>by
  rcases Nat.lt_or_ge (k - E) (lu + lv - 1) with hlt | hge
  ·have h10:=hx1 (k - E) hlt
   have h11 : ((coP U P k + coP V Q k : Int) : Rat) = 0:=by
    rw [<- h10,Zoa,Rat.intCast_add,hU,hV,Zsy,Zsy]
    congr 1
    ·refine Zaq fun j hj=>?_
     show _ = (if j < lu then _ else _) * x j;rw [if_pos hj,show E + (k - E) = k by omega,(hz j).1]
    ·refine Zaq fun j hj=>?_
     show _ = (if lu + j < lu then _ else _) * x (lu + j);rw [if_neg (show ¬ (lu + j < lu) by omega),show E + (k - E) = k by omega,(hz _).1,show lu + j - lu = j by omega]
   exact_mod_cast h11
  ·rw [Zi9 (by rw [hUl];omega),Zi9 (by rw [hVl];omega)];rfl
 obtain ⟨R,hR⟩ : ∃ R,R = (List.range E).map (fun k=>coP U P k + coP V Q k):=⟨_,rfl⟩
 have hRl : R.length = E:=by rw [hR];simp
 have hRz : ∀ k,cz R k = coP U P k + coP V Q k:=fun k=>by
  rw [hR,Zhe]
  split
  ·rfl
  ·exact (hzero k (by omega)).symm
 have hRe : ∀ y,Ze R y = Ze U y * Ze P y + Ze V y * Ze Q y:=fun y=>by
  obtain ⟨M,hM⟩ : ∃ M,U.length + P.length + (V.length + Q.length) + E = M:=⟨_,rfl⟩;rw [<- Zfu U P y (n:=M) (by omega),<- Zfu V Q y (n:=M) (by omega),<- Zny,Zik R y (n:=M) (by omega)]
  refine Zfd fun k _=>?_
  have h10:=hRz k;unfold cz at h10;rw [h10,Rat.intCast_add]
  grind
 have hRb : ∀ k,(cz R k).natAbs <= 2 * (n * (X * B)):=fun k=>by
  rcases Nat.lt_or_ge k E with hk | hk
  ·rw [hRz]
   have h10:=Zpm hUb hP k;have h11:=Zpm hVb hQb k;have h12 : (k + 1) * (X * B) <= n * (X * B):=Nat.mul_le_mul_right _ (by omega);omega
  ·rw [Zda (by omega)];exact Nat.zero_le _
 -- R is a multiple of b
 have hcross : Zf8 (fun y=>Ze U y * v y - Ze V y * u y):=by
  apply Classical.byContradiction
  intro hnz;have hpol : Pol (fun y=>Ze U y * v y - Ze V y * u y):=((Za2 U).mul ⟨_,h9⟩).sub ((Za2 V).mul ⟨_,h8⟩);obtain ⟨k,hk⟩:=Zjc hpol hnz;obtain ⟨m,hm⟩ : ∃ m,Q.length = m + 1:=⟨Q.length - 1,by have:=hQ.1;omega⟩;have hQd:=hQ.deg;rw [hm] at hQd;have hd:=hk.mul hQd;obtain ⟨F,hF⟩ : ∃ F,E = F + 1:=⟨E - 1,by omega⟩
  have g1 : PF (Q.length - 1) (fun y=>Ze U y * Ze b y):=by
   have h10 : PF ((Q.length - a.length) + 1) (Ze U):=(Zei U).mono (by omega);have h11 : PF (F + 1) (Ze b):=(Zei b).mono (by omega);exact (h10.mul1 h11).mono (by omega)
  have g2 : PF (Q.length - 1) (fun y=>u y * Ze R y):=by
   have h11 : PF (F + 1) (Ze R):=(Zei R).mono (by omega);exact (h8.mul1 h11).mono (by omega)
  have g3:=(g1.sub1 g2).congr (g:=fun y=>(Ze U y * v y - Ze V y * u y) * Ze Q y) (fun y=>by
   rw [hRe y,e2 y];grind)
  have:=hd.le_of_pf g3;omega
 obtain ⟨κ,hκ,-⟩:=Zjh h5
 have hmul : ∀ y,Ze R y = κ * (s y * Ze V y - t y * Ze U y) * Ze b y:=fun y=>by
  have h10 : Ze U y * v y - Ze V y * u y = 0:=hcross y;have h11:=e3 y
  have h12 : c * Ze R y = (s y * Ze V y - t y * Ze U y) * Ze b y:=by
   rw [hRe y,e2 y,<- h11]
   have h13 : Ze U y * v y = Ze V y * u y:=by grind
   grind
  have h14 : Ze R y = κ * c * Ze R y:=by rw [hκ];grind
  rw [h14,Rat.mul_assoc,h12];grind
 have hbd : Dvd (Ze b) (Ze R):=⟨fun y=>κ * (s y * Ze V y - t y * Ze U y),((Pol.mul ⟨_,h6⟩ (Za2 V)).sub (Pol.mul ⟨_,h7⟩ (Za2 U))).smul κ,hmul⟩
 have hRnz : ¬ Zf8 (Ze R):=fun hz0=>by
  have h10 : Zf8 (fun y=>s y * Ze V y - t y * Ze U y):=by
   have hp1 : Pol (fun y=>s y * Ze V y - t y * Ze U y):=(Pol.mul ⟨_,h6⟩ (Za2 V)).sub (Pol.mul ⟨_,h7⟩ (Za2 U))
   rcases Zfy hp1 (Za2 b) (fun y=>by
    have h11:=hmul y;rw [hz0 y] at h11
    have h12 : (κ * c) * ((s y * Ze V y - t y * Ze U y) * Ze b y) = 0:=by
     have : (κ * c) * ((s y * Ze V y - t y * Ze U y) * Ze b y) = c * (κ * (s y * Ze V y - t y * Ze U y) * Ze b y):=by grind
     rw [this,<- h11];grind
    rw [hκ] at h12
    grind) with h11 | h11
   ·exact h11
   ·exact absurd h11 hb.top.nz
  have hU0 : ∀ y,Ze U y = 0:=fun y=>by
   have g1 : s y * Ze V y - t y * Ze U y = 0:=h10 y;have g2 : Ze U y * v y - Ze V y * u y = 0:=hcross y;have g3:=e3 y
   have g4 : c * Ze U y = u y * (s y * Ze V y - t y * Ze U y):=by
    rw [<- g3]
    have h13 : Ze U y * v y = Ze V y * u y:=by grind
    grind
   rw [g1] at g4
   have g5 : Ze U y = κ * c * Ze U y:=by rw [hκ];grind
   rw [g5,Rat.mul_assoc,g4];grind
  have hV0 : ∀ y,Ze V y = 0:=fun y=>by
   have g1 : s y * Ze V y - t y * Ze U y = 0:=h10 y;have g2 : Ze U y * v y - Ze V y * u y = 0:=hcross y;have g3:=e3 y
   have g4 : c * Ze V y = v y * (s y * Ze V y - t y * Ze U y):=by
    rw [<- g3]
    have h13 : Ze U y * v y = Ze V y * u y:=by grind
    grind
   rw [g1] at g4
   have g5 : Ze V y = κ * c * Ze V y:=by rw [hκ];grind
   rw [g5,Rat.mul_assoc,g4];grind
  apply hx0
  rw [(hz j0).1]
  rcases Nat.lt_or_ge j0 lu with hj | hj
  ·have g1:=Zl6 (p:=U) (q:=[]) (fun y=>by rw [hU0 y];rfl) j0
   rw [hUz,if_pos hj] at g1;rw [g1];rfl
  ·have g1:=Zl6 (p:=V) (q:=[]) (fun y=>by rw [hV0 y];rfl) (j0 - lu)
   rw [hVz,if_pos (by omega),show lu + (j0 - lu) = j0 by omega] at g1;rw [g1];rfl
 have htop : Top (Zf R):=by
  rcases Za5 (Zby R) with h10 | h10
  ·exfalso
   refine hRnz fun y=>?_
   rw [<- Zbr R y,h10];rfl
  ·exact h10
 have hfin:=Zhl htop hb (hbd.congr fun y=>Zbr R y) (n:=n) (M:=2 * (n * (X * B))) (by have:=Zbo R;omega) (fun k=>by
  rw [show cz (Zf R) k = cz R k from Zh7 R k];exact hRb k) i
 rw [hX];exact hfin
end
end Go.Proofs.Ythappeninglakaa
