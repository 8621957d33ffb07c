/- Package frac: Of, cross. Package poly: content; package -/
import Derived.Test.YthappeninglakaaZq19
set_option maxRecDepth 100000
set_option maxHeartbeats 4000000
set_option linter.unusedSimpArgs false
set_option linter.unusedVariables false
namespace Go.Proofs.Ythappeninglakaa
open Go.RowKit
attribute [local go_sem] Zj
theorem alloc1 (w : World) (t0 : TypeId) (c0 : Array Value) :
    ∃ W,w.alloc (.cells c0 t0) = W /\ Below w.heap.size w W /\ Blk W w.heap.size t0 c0 /\ W.heap.size = w.heap.size + 1:=
 ⟨_,rfl,(Below.refl w.heap.size w).alloc (Nat.le_refl _) _,Blk.new _ _ _,by simp⟩
theorem Zg8 {a b : Int} {M : Nat} (ha : a.natAbs < M) (hb : b.natAbs < M) : (Zfr a b).natAbs < M:=by
 unfold Zfr;rw [Int.natAbs_natCast]
 rcases Nat.eq_zero_or_pos b.natAbs with h | h
 ·rw [h,Nat.gcd_zero_right];exact ha
 ·exact Nat.lt_of_le_of_lt (Nat.gcd_le_right _ h) hb
theorem Zka (A : Option Addr) (n c : Nat) (es : List WE) (w : World) (hL : WL w A n c es) (hk : ∀ e ∈ es,e.ok = true) :
    Calls Try.prog 36 #[.slice A n c] w (NumW w (Zaf (es.map WE.num))):=by
 have hnc:=hL.2.1;have hcm:=hL.2.2.1;unfold maxLen at hcm;have hlen:=hL.len;obtain ⟨W0,hW0,hB,q,sz⟩:=alloc1 w 26 #[.bool false,.slice none 0 0];go_enter Try.func36,Try.ntmps36;go_wp2_with fail;replace hL:=Zb hL
 go_loopw [7] (fun iv wx=>∃ (k : Nat) (ns : Bool) (As : Option Addr) (ks cs : Nat),k <= n /\ iv = .int .i64 k /\ Below w.heap.size w wx /\ Blk wx w.heap.size 26 #[.bool ns,.slice As ks cs] /\ Wd wx ns As ks cs (Zcn (es.map WE.num) k)) (fun iv _=>n - (intOf iv).toNat)
 case atStart=>exact ⟨0,_,_,_,_,Nat.zero_le _,rfl,hB,q,Wd.zero _⟩
 case round =>
  clear q hB hW0;obtain ⟨k,ns,As,ks,cs,hk1,rfl,hbr,q,hz⟩:=hrel
  by_cases hkn : k < n
  case neg =>
   obtain rfl : n = k:=by omega
   have htk : decide ((n : Int) < (n : Int)) = false:=by simp
   obtain ⟨s0,s1,s2,s3⟩:=q.two;obtain ⟨Z,hZ,hBZ,qz,st⟩:=Zu ns As ks cs hbr (Nat.le_refl _) q;have hz2:=Zb (st.1 _ _ _ _ _ hz);obtain ⟨t0,t1,t2,t3⟩:=qz.two;have hlt:=qz.lt;clear st;replace hz:=Zb hz;go_wp2_with fail;refine bodyPost_ret (v:=.agg #[.bool ns,.slice As ks cs]) (by simp [results,Try.results36,go_sem,t0,t1,hlt]) rfl ?_;exact ⟨hBZ,_,_,_,_,rfl,by unfold Zaf;rw [List.length_map,hlen];exact hz2.out⟩
  have htk : decide ((k : Int) < (n : Int)) = true:=by simp;omega
  obtain ⟨b,o,e,rfl,he,c1,c2,-⟩:=(hL.out.below hbr).at_ hkn;have hme : e ∈ es:=List.mem_of_getElem? he;have hwe : Wd wr e.neg e.A e.n e.c e.num:=WE.wd ((hL.out.below hbr).2.2.2.2 e hme) (hk e hme)
  have hcK : Zcn (es.map WE.num) (k + 1) = Zfr (Zcn (es.map WE.num) k) e.num:=by
   show Zfr _ ((es.map WE.num)[k]?.getD 0) = _;rw [List.getElem?_map,he];rfl
  replace hcK:=Zb hcK;replace he:=Zb he;have hql:=q.lt;obtain ⟨Y,hY,hBY,ka,yd,yb,ysz⟩:=Z8 26 #[.bool false,.slice none 0 0] hbr hbr.size;replace q:=yb _ _ _ q;replace hz:=yd _ _ _ _ _ hz;replace hwe:=yd _ _ _ _ _ hwe;obtain ⟨y0,y1,y2,y3⟩:=ka.two;obtain ⟨X,hX,hBX,ka,st⟩:=Zu e.neg e.A e.n e.c hBY hbr.size ka;replace q:=st.2.1 _ _ _ (by omega) q;replace hz:=Zb (st.1 _ _ _ _ _ hz);replace hwe:=Zb (st.1 _ _ _ _ _ hwe);obtain ⟨s0,s1,-,-⟩:=q.two;obtain ⟨a0,a1,-,-⟩:=ka.two;clear st yd yb;go_wp2_with fail;refine (Zs9 ns e.neg As e.A ks cs e.n e.c (Zcn (es.map WE.num) k) e.num X hz.out hwe.out).mono ?_;rintro ee w3 ⟨hb3,n3,A3,m3,d3,code3,rfl,hp3⟩;have hg : Wd w3 n3 A3 m3 d3 (Zfr (Zcn (es.map WE.num) k) e.num):=hp3.small (Zg8 hz.out.small hwe.out.small);clear y0 y1 y2 y3 s0 s1 a0 a1 hX hY ka hp3 c1 c2;replace hBX:=hBX.trans (hb3.mono hBX.size);replace q:=Zd hb3 q;obtain ⟨s0,s1,s2,s3⟩:=q.two;obtain ⟨Z,hZ,hBZ,qz,st⟩:=Zu n3 A3 m3 d3 hBX (Nat.le_refl _) q;have hg2:=Zb (st.1 _ _ _ _ _ hg);clear st hg q hz hwe;go_wp2_with fail
  go_round
  case rel=>exact ⟨k + 1,_,_,_,_,by omega,by go_num,hBZ,qz,by rw [hcK.out];exact hg2.out⟩
  case measure=>simp [intOf];omega
theorem Wd.keepO {w : World} {neg : Bool} {A : Option Addr} {n c : Nat} {z : Int} {t : TypeId} {g : Nat} {xs : List Int} (h : Wd w neg A n c z) (ho : POwn t w g xs) (i : Nat) (b : Bool) (A' : Option Addr) (n' c' : Nat) : Wd ((w.setCell ⟨g,i * 2,none⟩ (.bool b)).setCell ⟨g,i * 2 + 1,none⟩ (.slice A' n' c')) neg A n c z:=by
 obtain ⟨es,h1,h2,rfl⟩:=ho;have hb1:=h1.set_ (i * 2) (.bool b);exact ⟨h.1,h.2.1,(h.2.2.set_box h1 (Zb7 es) _ _).set_box hb1 (Zdz _ _ _) _ _⟩
theorem Zrb {es : List WE} {n : Nat} (hl : es.length = n) (h0 : 0 < n) {e : WE} (he : es[n - 1]? = some e) : signP (es.map WE.num) = if e.num < 0 then -Zaf (es.map WE.num) else Zaf (es.map WE.num):=by
 unfold signP;rw [List.length_map,hl,List.getElem?_map,he]
 rfl
theorem part_ok (A : Option Addr) (n c : Nat) (es : List WE) (w : World) (hL : WL w A n c es) (hk : ∀ e ∈ es,e.ok = true) (hn : n <= 1000) (hg0 : n = 0 \/ signP (es.map WE.num) ≠ 0) :
    Calls Try.prog 19 #[.slice A n c] w fun e w'=>Below w.heap.size w w' /\ ∃ A' c',e = .returned (.slice A' n c') /\ PolyL w' A' n c' (Zh (es.map WE.num)):=by
 have hlen:=Zb hL.len;have hnc:=hL.2.1;obtain ⟨i0,hi,hz0,hz1,hz2⟩:=info_parts Zfm;have hc0:=Zka A n c es w hL hk;replace hL:=Zb hL;replace hg0:=Zb hg0;go_enter Try.func19,Try.ntmps19;go_wp2_with fail;refine hc0.mono ?_;rintro e w1 ⟨hb1,ng,Ag,kg,cg,rfl,hg1⟩;clear hc0;obtain ⟨gG,hgG⟩ : ∃ g,w1.heap.size = g:=⟨_,rfl⟩
 have hgGw : w.heap.size <= gG:=by rw [<- hgG];exact hb1.size
 obtain ⟨V,hV,hBV,q,vd,vb,vsz⟩:=Z8 26 #[.bool false,.slice none 0 0] hb1 hb1.size;replace hg1:=vd _ _ _ _ _ hg1;obtain ⟨y0,y1,y2,y3⟩:=q.two;obtain ⟨X,hX,hBX,q,st⟩:=Zu ng Ag kg cg hBV hb1.size q;replace hg1:=st.1 _ _ _ _ _ hg1;clear st vd vb;obtain ⟨s0,s1,s2,s3⟩:=q.two;rw [hgG] at q s0 s1 s2 s3 y0 y1 y2 y3 hX
 by_cases hn0 : n = 0
 ·have t0 : decide ((0 : Int) < (n : Int)) = false:=by simp;omega
  have t0' : decide (0 < n) = false:=by simp;omega
  have hsP : signP (es.map WE.num) = Zaf (es.map WE.num):=by
   have : es = []:=List.eq_nil_of_length_eq_zero (by rw [hlen.out];exact hn0);subst this
   rfl
  rw [<- hsP] at hg1;replace hsP:=Zb hsP;replace hn0:=Zb hn0;have hsz:=q.lt;have hmk:=Zlf (P:=Try.prog) 22 26 Try.underlying22 hi hz0 hz1 hz2 (n : Int) n rfl (by omega);go_wp2_with fail;clear hmk;obtain ⟨gO,hgO⟩ : ∃ g,X.heap.size = g:=⟨_,rfl⟩
  have hgOw : w.heap.size <= gO:=by rw [<- hgO];exact hBX.size
  have hown0:=POwn.new 26 X n;have hB0:=hBX.alloc hBX.size (.cells (Zad (List.replicate n Zao)) 26);have q0:=q.alloc (.cells (Zad (List.replicate n Zao)) 26);have hs0:=hg1.alloc (.cells (Zad (List.replicate n Zao)) 26);rw [hgO] at hown0 hsz ⊢
  go_loopw [31] (fun iv wx=>∃ (k : Nat) (o : List Int),k <= n /\ iv = .int .i64 k /\ POwn 26 wx gO o /\ Hid (o.length = n) /\ Hid (∀ j,j < k -> o[j]?.getD 0 = Int.fdiv ((es.map WE.num)[j]?.getD 0) (signP (es.map WE.num))) /\ Below w.heap.size w wx /\ Blk wx gG 26 #[.bool ng,.slice Ag kg cg] /\ Wd wx ng Ag kg cg (signP (es.map WE.num)) /\ gO < wx.heap.size) (fun iv _=>n - (intOf iv).toNat)
  case atStart=>exact ⟨0,List.replicate n 0,Nat.zero_le _,rfl,hown0,by unfold Hid;simp,Zb (fun j hj=>by omega),hB0,q0,hs0,by rw [<- hgO];simp⟩
  case round =>
   clear hown0 hB0 q0 hs0;obtain ⟨k,o,hk1,rfl,hown,hol,hod,hbr,qg,hsg,hgw⟩:=hrel
   by_cases hkn : k < n
   case neg =>
    obtain rfl : n = k:=by omega
    have htk : decide ((n : Int) < (n : Int)) = false:=by simp
    have ho : o = Zh (es.map WE.num):=by
     apply List.ext_getElem
     ·rw [hol.out];unfold Zh;simp [hlen.out]
     ·intro j h1 h2
      have:=hod.out j (by rw [hol.out] at h1;exact h1);rw [List.getElem?_eq_getElem h1] at this;rw [List.getElem?_map,List.getElem?_eq_getElem (by rw [hlen.out];rw [hol.out] at h1;exact h1)] at this
      simpa [Zh] using this
    have hpl:=Zb (hown.poly (by rw [hol.out];unfold maxLen;omega));rw [hol.out] at hpl;replace ho:=Zb ho;go_wp2_with fail;go_ret;exact ⟨hbr,_,_,rfl,by rw [<- ho.out];exact hpl.out⟩
   have htk : decide ((k : Int) < (n : Int)) = true:=by simp;omega
   obtain ⟨b,ob,e,hAe,he,c1,c2,-⟩:=(hL.out.below hbr).at_ hkn
   cases hAe
   have hme : e ∈ es:=List.mem_of_getElem? he;have hwe : Wd wr e.neg e.A e.n e.c e.num:=WE.wd ((hL.out.below hbr).2.2.2.2 e hme) (hk e hme);have hxk : Hid ((es.map WE.num)[k]?.getD 0 = e.num):=Zb (by rw [List.getElem?_map,he];rfl);replace he:=Zb he;have hqgl:=qg.lt;obtain ⟨Y,hY,hBY,ka,yd,yb,ysz⟩:=Z8 26 #[.bool false,.slice none 0 0] hbr hbr.size;have hownY:=hown.below ((Below.refl wr.heap.size wr).alloc (Nat.le_refl _) (.cells #[.bool false,.slice none 0 0] 26));rw [hY] at hownY;replace qg:=yb _ _ _ qg;replace hsg:=yd _ _ _ _ _ hsg;replace hwe:=yd _ _ _ _ _ hwe;obtain ⟨y0,y1,y2,y3⟩:=ka.two;obtain ⟨X,hX,hBX,ka,st⟩:=Zu e.neg e.A e.n e.c hBY hbr.size ka
   have hfr : Below wr.heap.size wr X:=by
    rw [<- hX,<- hY];exact ((((Below.refl wr.heap.size wr).alloc (Nat.le_refl _) _).setCell (p:=⟨wr.heap.size,0,none⟩) (Nat.le_refl _) _).setCell (p:=⟨wr.heap.size,1,none⟩) (Nat.le_refl _) _)
   replace hown:=Zb (hown.below hfr);replace qg:=st.2.1 _ _ _ (by omega) qg;replace hsg:=Zb (st.1 _ _ _ _ _ hsg);replace hwe:=Zb (st.1 _ _ _ _ _ hwe);obtain ⟨s0,s1,-,-⟩:=qg.two;obtain ⟨a0,a1,-,-⟩:=ka.two;clear st yd yb hownY;go_wp2_with fail;refine (Zgc e.neg _ e.A _ e.n e.c _ _ e.num (signP (es.map WE.num)) X hwe.out hsg.out (by rcases hg0.out with h | h;omega;exact h)).mono ?_;rintro ee w3 ⟨hb3,nq,Aq,kq,cq,nr,Ar,kr,cr,rfl,hq3,-⟩;have hXs:=hfr.size;clear y0 y1 y2 y3 s0 s1 a0 a1 hX hY ka c1 c2;replace hBX:=hBX.trans (hb3.mono hBX.size);replace qg:=Zd hb3 qg;replace hsg:=Zb (hsg.out.below hb3);have hown3:=hown.out.below hb3;obtain ⟨negO,AO,nO,cO,hO1,hO2,-⟩:=hown3.at_ (i:=k) (by rw [hol.out];exact hkn);have hf1:=hown3.frozen (k * 2);have hf2:=hown3.frozen (k * 2 + 1);have hs3:=hb3.size;have hset:=hown3.set_ (i:=k) (by rw [hol.out];exact hkn) hq3;have hsg3 : Wd ((w3.setCell ⟨gO,k * 2,none⟩ (.bool nq)).setCell ⟨gO,k * 2 + 1,none⟩ (.slice Aq kq cq)) ng Ag kg cg (signP (es.map WE.num)):=hsg.out.keepO hown3 k nq Aq kq cq;have hqg3:=(qg.far (p:=⟨gO,k * 2,none⟩) (by show gG ≠ gO;omega) (.bool nq)).far (p:=⟨gO,k * 2 + 1,none⟩) (by show gG ≠ gO;omega) (.slice Aq kq cq);replace hset:=Zb hset;replace hsg3:=Zb hsg3;replace hqg3:=Zb hqg3;clear hown3;go_wp2_with fail
   go_round
   case rel=>exact ⟨k + 1,o.set k (Int.fdiv e.num (signP (es.map WE.num))),by omega,by go_num,hset.out,by rw [List.length_set];exact hol.out,Zb (fun j hj=>by
       rcases Nat.lt_or_ge j k with h' | h'
       ·rw [List.getElem?_set_ne (by omega)];exact hod.out j h'
       ·obtain rfl : j = k:=by omega
        rw [List.getElem?_set_self (by rw [hol.out];exact hkn),hxk.out];rfl),(hBX.setCell (p:=⟨gO,k * 2,none⟩) hgOw _).setCell (p:=⟨gO,k * 2 + 1,none⟩) hgOw _,hqg3.out,hsg3.out,by simp;omega⟩
   case measure=>simp [intOf];omega
 have t0 : decide ((0 : Int) < (n : Int)) = true:=by simp;omega
 have t0' : decide (0 < n) = true:=by simp;omega
 obtain ⟨b0,ob0,e0,hA0,he0,cc1,cc2,-⟩:=(hL.out.below hBX).at_ (k:=n - 1) (by omega);have hme0 : e0 ∈ es:=List.mem_of_getElem? he0;have hwe0 : Wd X e0.neg e0.A e0.n e0.c e0.num:=WE.wd ((hL.out.below hBX).2.2.2.2 e0 hme0) (hk e0 hme0);have hsP:=Zrb hlen.out (by omega) he0;have hnn:=hwe0.1;subst hA0;obtain ⟨j1,hj1⟩ : ∃ j1 : Nat,n = j1 + 1:=⟨n - 1,by omega⟩
 have hjn : n - 1 = j1:=by omega
 rw [hjn] at cc1 cc2 he0
 have hji : (n : Int) - 1 = (j1 : Int):=by omega
 have hwr : IntKind.i64.wrap ((n : Int) - 1) = (j1 : Int):=by rw [hji,IntKind.wrap_i64];omega
 have hjl : (j1 : Int) < (n : Int):=by omega
 have hj0 : (0 : Int) <= (j1 : Int):=by omega
 have hjl2 : j1 < n:=by omega
 replace hj1:=Zb hj1;replace hji:=Zb hji;replace hjn:=Zb hjn;replace hn0:=Zb hn0;replace he0:=Zb he0
 cases hneg : e0.neg
 case false =>
  have hnz : ¬ e0.num < 0:=by rw [hneg] at hnn;simpa using hnn.symm
  rw [if_neg hnz] at hsP;rw [<- hsP] at hg1;rw [hneg] at cc1;replace hsP:=Zb hsP;clear hwe0 hnn;have hsz:=q.lt;have hmk:=Zlf (P:=Try.prog) 22 26 Try.underlying22 hi hz0 hz1 hz2 (n : Int) n rfl (by omega);go_wp2_with fail;clear hmk;obtain ⟨gO,hgO⟩ : ∃ g,X.heap.size = g:=⟨_,rfl⟩
  have hgOw : w.heap.size <= gO:=by rw [<- hgO];exact hBX.size
  have hown0:=POwn.new 26 X n;have hB0:=hBX.alloc hBX.size (.cells (Zad (List.replicate n Zao)) 26);have q0:=q.alloc (.cells (Zad (List.replicate n Zao)) 26);have hs0:=hg1.alloc (.cells (Zad (List.replicate n Zao)) 26);rw [hgO] at hown0 hsz ⊢
  go_loopw [31] (fun iv wx=>∃ (k : Nat) (o : List Int),k <= n /\ iv = .int .i64 k /\ POwn 26 wx gO o /\ Hid (o.length = n) /\ Hid (∀ j,j < k -> o[j]?.getD 0 = Int.fdiv ((es.map WE.num)[j]?.getD 0) (signP (es.map WE.num))) /\ Below w.heap.size w wx /\ Blk wx gG 26 #[.bool ng,.slice Ag kg cg] /\ Wd wx ng Ag kg cg (signP (es.map WE.num)) /\ gO < wx.heap.size) (fun iv _=>n - (intOf iv).toNat)
  case atStart=>exact ⟨0,List.replicate n 0,Nat.zero_le _,rfl,hown0,by unfold Hid;simp,Zb (fun j hj=>by omega),hB0,q0,hs0,by rw [<- hgO];simp⟩
  case round =>
   clear hown0 hB0 q0 hs0;obtain ⟨k,o,hk1,rfl,hown,hol,hod,hbr,qg,hsg,hgw⟩:=hrel
   by_cases hkn : k < n
   case neg =>
    obtain rfl : n = k:=by omega
    have htk : decide ((n : Int) < (n : Int)) = false:=by simp
    have ho : o = Zh (es.map WE.num):=by
     apply List.ext_getElem
     ·rw [hol.out];unfold Zh;simp [hlen.out]
     ·intro j h1 h2
      have:=hod.out j (by rw [hol.out] at h1;exact h1);rw [List.getElem?_eq_getElem h1] at this;rw [List.getElem?_map,List.getElem?_eq_getElem (by rw [hlen.out];rw [hol.out] at h1;exact h1)] at this
      simpa [Zh] using this
    have hpl:=Zb (hown.poly (by rw [hol.out];unfold maxLen;omega));rw [hol.out] at hpl;replace ho:=Zb ho;go_wp2_with fail;go_ret;exact ⟨hbr,_,_,rfl,by rw [<- ho.out];exact hpl.out⟩
   have htk : decide ((k : Int) < (n : Int)) = true:=by simp;omega
   obtain ⟨b,ob,e,hAe,he,c1,c2,-⟩:=(hL.out.below hbr).at_ hkn
   cases hAe
   have hme : e ∈ es:=List.mem_of_getElem? he;have hwe : Wd wr e.neg e.A e.n e.c e.num:=WE.wd ((hL.out.below hbr).2.2.2.2 e hme) (hk e hme);have hxk : Hid ((es.map WE.num)[k]?.getD 0 = e.num):=Zb (by rw [List.getElem?_map,he];rfl);replace he:=Zb he;have hqgl:=qg.lt;obtain ⟨Y,hY,hBY,ka,yd,yb,ysz⟩:=Z8 26 #[.bool false,.slice none 0 0] hbr hbr.size;have hownY:=hown.below ((Below.refl wr.heap.size wr).alloc (Nat.le_refl _) (.cells #[.bool false,.slice none 0 0] 26));rw [hY] at hownY;replace qg:=yb _ _ _ qg;replace hsg:=yd _ _ _ _ _ hsg;replace hwe:=yd _ _ _ _ _ hwe;obtain ⟨y0,y1,y2,y3⟩:=ka.two;obtain ⟨X,hX,hBX,ka,st⟩:=Zu e.neg e.A e.n e.c hBY hbr.size ka
   have hfr : Below wr.heap.size wr X:=by
    rw [<- hX,<- hY];exact ((((Below.refl wr.heap.size wr).alloc (Nat.le_refl _) _).setCell (p:=⟨wr.heap.size,0,none⟩) (Nat.le_refl _) _).setCell (p:=⟨wr.heap.size,1,none⟩) (Nat.le_refl _) _)
   replace hown:=Zb (hown.below hfr);replace qg:=st.2.1 _ _ _ (by omega) qg;replace hsg:=Zb (st.1 _ _ _ _ _ hsg);replace hwe:=Zb (st.1 _ _ _ _ _ hwe);obtain ⟨s0,s1,-,-⟩:=qg.two;obtain ⟨a0,a1,-,-⟩:=ka.two;clear st yd yb hownY;go_wp2_with fail;refine (Zgc e.neg _ e.A _ e.n e.c _ _ e.num (signP (es.map WE.num)) X hwe.out hsg.out (by rcases hg0.out with h | h;omega;exact h)).mono ?_;rintro ee w3 ⟨hb3,nq,Aq,kq,cq,nr,Ar,kr,cr,rfl,hq3,-⟩;have hXs:=hfr.size;clear y0 y1 y2 y3 s0 s1 a0 a1 hX hY ka c1 c2;replace hBX:=hBX.trans (hb3.mono hBX.size);replace qg:=Zd hb3 qg;replace hsg:=Zb (hsg.out.below hb3);have hown3:=hown.out.below hb3;obtain ⟨negO,AO,nO,cO,hO1,hO2,-⟩:=hown3.at_ (i:=k) (by rw [hol.out];exact hkn);have hf1:=hown3.frozen (k * 2);have hf2:=hown3.frozen (k * 2 + 1);have hs3:=hb3.size;have hset:=hown3.set_ (i:=k) (by rw [hol.out];exact hkn) hq3;have hsg3 : Wd ((w3.setCell ⟨gO,k * 2,none⟩ (.bool nq)).setCell ⟨gO,k * 2 + 1,none⟩ (.slice Aq kq cq)) ng Ag kg cg (signP (es.map WE.num)):=hsg.out.keepO hown3 k nq Aq kq cq;have hqg3:=(qg.far (p:=⟨gO,k * 2,none⟩) (by show gG ≠ gO;omega) (.bool nq)).far (p:=⟨gO,k * 2 + 1,none⟩) (by show gG ≠ gO;omega) (.slice Aq kq cq);replace hset:=Zb hset;replace hsg3:=Zb hsg3;replace hqg3:=Zb hqg3;clear hown3;go_wp2_with fail
   go_round
   case rel=>exact ⟨k + 1,o.set k (Int.fdiv e.num (signP (es.map WE.num))),by omega,by go_num,hset.out,by rw [List.length_set];exact hol.out,Zb (fun j hj=>by
       rcases Nat.lt_or_ge j k with h' | h'
       ·rw [List.getElem?_set_ne (by omega)];exact hod.out j h'
       ·obtain rfl : j = k:=by omega
        rw [List.getElem?_set_self (by rw [hol.out];exact hkn),hxk.out];rfl),(hBX.setCell (p:=⟨gO,k * 2,none⟩) hgOw _).setCell (p:=⟨gO,k * 2 + 1,none⟩) hgOw _,hqg3.out,hsg3.out,by simp;omega⟩
   case measure=>simp [intOf];omega
 case true =>
  have hnz : e0.num < 0:=by rw [hneg] at hnn;simpa using hnn.symm
  rw [if_pos hnz] at hsP;rw [hneg] at cc1;replace hsP:=Zb hsP;clear hwe0 hnn;go_wp2_with fail;refine (Neg_ok ng Ag kg cg (Zaf (es.map WE.num)) X hg1).mono ?_;rintro e w2 ⟨hb2,nn,An,kn,cn',code2,rfl,hp2⟩
  have hgN : Wd w2 nn An kn cn' (signP (es.map WE.num)):=by rw [hsP.out];exact hp2.small (by rw [Int.natAbs_neg];exact hg1.small)
  clear hp2 hg1 y0 y1 y2 y3 s0 s1 s2 s3 hX hV cc1 cc2;have hB2:=hBX.trans (hb2.mono hBX.size);replace q:=Zd hb2 q;obtain ⟨s0,s1,s2,s3⟩:=q.two;obtain ⟨Z,hZ,hBZ,qz,st⟩:=Zu nn An kn cn' hB2 hgGw q;replace hgN:=st.1 _ _ _ _ _ hgN;clear st q;have hsz:=qz.lt;have hmk:=Zlf (P:=Try.prog) 22 26 Try.underlying22 hi hz0 hz1 hz2 (n : Int) n rfl (by omega);go_wp2_with fail;clear hmk;obtain ⟨gO,hgO⟩ : ∃ g,Z.heap.size = g:=⟨_,rfl⟩
  have hgOw : w.heap.size <= gO:=by rw [<- hgO];exact hBZ.size
  have hown0:=POwn.new 26 Z n;have hB0:=hBZ.alloc hBZ.size (.cells (Zad (List.replicate n Zao)) 26);have q0:=qz.alloc (.cells (Zad (List.replicate n Zao)) 26);have hs0:=hgN.alloc (.cells (Zad (List.replicate n Zao)) 26);rw [hgO] at hown0 hsz ⊢
  go_loopw [31] (fun iv wx=>∃ (k : Nat) (o : List Int),k <= n /\ iv = .int .i64 k /\ POwn 26 wx gO o /\ Hid (o.length = n) /\ Hid (∀ j,j < k -> o[j]?.getD 0 = Int.fdiv ((es.map WE.num)[j]?.getD 0) (signP (es.map WE.num))) /\ Below w.heap.size w wx /\ Blk wx gG 26 #[.bool nn,.slice An kn cn'] /\ Wd wx nn An kn cn' (signP (es.map WE.num)) /\ gO < wx.heap.size) (fun iv _=>n - (intOf iv).toNat)
  case atStart=>exact ⟨0,List.replicate n 0,Nat.zero_le _,rfl,hown0,by unfold Hid;simp,Zb (fun j hj=>by omega),hB0,q0,hs0,by rw [<- hgO];simp⟩
  case round =>
   clear hown0 hB0 q0 hs0;obtain ⟨k,o,hk1,rfl,hown,hol,hod,hbr,qg,hsg,hgw⟩:=hrel
   by_cases hkn : k < n
   case neg =>
    obtain rfl : n = k:=by omega
    have htk : decide ((n : Int) < (n : Int)) = false:=by simp
    have ho : o = Zh (es.map WE.num):=by
     apply List.ext_getElem
     ·rw [hol.out];unfold Zh;simp [hlen.out]
     ·intro j h1 h2
      have:=hod.out j (by rw [hol.out] at h1;exact h1);rw [List.getElem?_eq_getElem h1] at this;rw [List.getElem?_map,List.getElem?_eq_getElem (by rw [hlen.out];rw [hol.out] at h1;exact h1)] at this
      simpa [Zh] using this
    have hpl:=Zb (hown.poly (by rw [hol.out];unfold maxLen;omega));rw [hol.out] at hpl;replace ho:=Zb ho;go_wp2_with fail;go_ret;exact ⟨hbr,_,_,rfl,by rw [<- ho.out];exact hpl.out⟩
   have htk : decide ((k : Int) < (n : Int)) = true:=by simp;omega
   obtain ⟨b,ob,e,hAe,he,c1,c2,-⟩:=(hL.out.below hbr).at_ hkn
   cases hAe
   have hme : e ∈ es:=List.mem_of_getElem? he;have hwe : Wd wr e.neg e.A e.n e.c e.num:=WE.wd ((hL.out.below hbr).2.2.2.2 e hme) (hk e hme);have hxk : Hid ((es.map WE.num)[k]?.getD 0 = e.num):=Zb (by rw [List.getElem?_map,he];rfl);replace he:=Zb he;have hqgl:=qg.lt;obtain ⟨Y,hY,hBY,ka,yd,yb,ysz⟩:=Z8 26 #[.bool false,.slice none 0 0] hbr hbr.size;have hownY:=hown.below ((Below.refl wr.heap.size wr).alloc (Nat.le_refl _) (.cells #[.bool false,.slice none 0 0] 26));rw [hY] at hownY;replace qg:=yb _ _ _ qg;replace hsg:=yd _ _ _ _ _ hsg;replace hwe:=yd _ _ _ _ _ hwe;obtain ⟨y0,y1,y2,y3⟩:=ka.two;obtain ⟨X,hX,hBX,ka,st⟩:=Zu e.neg e.A e.n e.c hBY hbr.size ka
   have hfr : Below wr.heap.size wr X:=by
    rw [<- hX,<- hY];exact ((((Below.refl wr.heap.size wr).alloc (Nat.le_refl _) _).setCell (p:=⟨wr.heap.size,0,none⟩) (Nat.le_refl _) _).setCell (p:=⟨wr.heap.size,1,none⟩) (Nat.le_refl _) _)
   replace hown:=Zb (hown.below hfr);replace qg:=st.2.1 _ _ _ (by omega) qg;replace hsg:=Zb (st.1 _ _ _ _ _ hsg);replace hwe:=Zb (st.1 _ _ _ _ _ hwe);obtain ⟨s0,s1,-,-⟩:=qg.two;obtain ⟨a0,a1,-,-⟩:=ka.two;clear st yd yb hownY;go_wp2_with fail;refine (Zgc e.neg _ e.A _ e.n e.c _ _ e.num (signP (es.map WE.num)) X hwe.out hsg.out (by rcases hg0.out with h | h;omega;exact h)).mono ?_;rintro ee w3 ⟨hb3,nq,Aq,kq,cq,nr,Ar,kr,cr,rfl,hq3,-⟩;have hXs:=hfr.size;clear y0 y1 y2 y3 s0 s1 a0 a1 hX hY ka c1 c2;replace hBX:=hBX.trans (hb3.mono hBX.size);replace qg:=Zd hb3 qg;replace hsg:=Zb (hsg.out.below hb3);have hown3:=hown.out.below hb3;obtain ⟨negO,AO,nO,cO,hO1,hO2,-⟩:=hown3.at_ (i:=k) (by rw [hol.out];exact hkn);have hf1:=hown3.frozen (k * 2);have hf2:=hown3.frozen (k * 2 + 1);have hs3:=hb3.size;have hset:=hown3.set_ (i:=k) (by rw [hol.out];exact hkn) hq3;have hsg3 : Wd ((w3.setCell ⟨gO,k * 2,none⟩ (.bool nq)).setCell ⟨gO,k * 2 + 1,none⟩ (.slice Aq kq cq)) nn An kn cn' (signP (es.map WE.num)):=hsg.out.keepO hown3 k nq Aq kq cq;have hqg3:=(qg.far (p:=⟨gO,k * 2,none⟩) (by show gG ≠ gO;omega) (.bool nq)).far (p:=⟨gO,k * 2 + 1,none⟩) (by show gG ≠ gO;omega) (.slice Aq kq cq);replace hset:=Zb hset;replace hsg3:=Zb hsg3;replace hqg3:=Zb hqg3;clear hown3;go_wp2_with fail
   go_round
   case rel=>exact ⟨k + 1,o.set k (Int.fdiv e.num (signP (es.map WE.num))),by omega,by go_num,hset.out,by rw [List.length_set];exact hol.out,Zb (fun j hj=>by
       rcases Nat.lt_or_ge j k with h' | h'
       ·rw [List.getElem?_set_ne (by omega)];exact hod.out j h'
       ·obtain rfl : j = k:=by omega
        rw [List.getElem?_set_self (by rw [hol.out];exact hkn),hxk.out];rfl),(hBX.setCell (p:=⟨gO,k * 2,none⟩) hgOw _).setCell (p:=⟨gO,k * 2 + 1,none⟩) hgOw _,hqg3.out,hsg3.out,by simp;omega⟩
   case measure=>simp [intOf];omega
def Ze : List Int -> Rat -> Rat
 | [],_=>0
 | a :: l,x=>(a : Rat) + x * Ze l x
theorem Zbr (p : List Int) (x : Rat) : Ze (Zf p) x = Ze p x:=by
 induction p with
 | nil=>rfl
 | cons a l ih =>
  rw [Zf]
  cases h : Zf l with
  | nil =>
   rw [h] at ih
   by_cases ha : a = 0
   ·simp only [ha,if_true,Ze,<- ih];grind
   ·simp only [if_neg ha,Ze,<- ih]
  | cons y m =>
   rw [h] at ih;show (a : Rat) + x * Ze (y :: m) x = _;rw [ih];rfl
theorem Zh7 (p : List Int) (i : Nat) : (Zf p)[i]?.getD 0 = p[i]?.getD 0:=by
 induction p generalizing i with
 | nil=>rfl
 | cons a l ih =>
  rw [Zf]
  cases h : Zf l with
  | nil =>
   rw [h] at ih
   cases i with
   | zero=>by_cases ha : a = 0 <;> simp [ha]
   | succ i =>
    have:=ih i
    by_cases ha : a = 0
    ·simp [ha];simpa using this
    ·simp [ha];simpa using this
  | cons y m =>
   rw [h] at ih
   cases i with
   | zero=>simp
   | succ i=>simpa using ih i
theorem Zq8 {p q : List Int} (h : ∀ i : Nat,p[i]?.getD 0 = q[i]?.getD 0) : Zf p = Zf q:=by
 induction p generalizing q with
 | nil =>
  have key : ∀ q : List Int,(∀ i : Nat,q[i]?.getD 0 = 0) -> Zf q = []:=by
   intro q
   induction q with
   | nil=>intro _;rfl
   | cons a l ih =>
    intro h;have h0:=h 0
    simp at h0
    rw [Zf,ih (fun i=>by have:=h (i + 1);simpa using this)]
    simp [h0]
  rw [key q (fun i=>by rw [<- h i];simp)]
  rfl
 | cons a l ih =>
  cases q with
  | nil =>
   have key : ∀ q : List Int,(∀ i : Nat,q[i]?.getD 0 = 0) -> Zf q = []:=by
    intro q
    induction q with
    | nil=>intro _;rfl
    | cons a l ih =>
     intro h;have h0:=h 0
     simp at h0
     rw [Zf,ih (fun i=>by have:=h (i + 1);simpa using this)]
     simp [h0]
   rw [key (a :: l) (fun i=>by rw [h i];simp)]
   rfl
  | cons b m =>
   have h0:=h 0
   simp at h0
   have h1:=ih (q:=m) (fun i=>by have:=h (i + 1);simpa using this);rw [Zf,Zf,h1,h0]
def Zcu (f : Nat -> Rat) : Nat -> Rat
 | 0=>0
 | n + 1=>Zcu f n + f n
theorem Zfd {f g : Nat -> Rat} {n : Nat} (h : ∀ i,i < n -> f i = g i) : Zcu f n = Zcu g n:=by
 induction n with
 | zero=>rfl
 | succ n ih=>rw [Zcu,Zcu,ih (fun i hi=>h i (by omega)),h n (by omega)]
theorem Zg2 (f : Nat -> Rat) (n : Nat) : Zcu f (n + 1) = f 0 + Zcu (fun i=>f (i + 1)) n:=by
 induction n with
 | zero=>simp [Zcu];grind
 | succ n ih=>rw [Zcu,ih,Zcu];grind
theorem Zny (f g : Nat -> Rat) (n : Nat) : Zcu (fun i=>f i + g i) n = Zcu f n + Zcu g n:=by
 induction n with
 | zero=>simp only [Zcu];grind
 | succ n ih=>rw [Zcu,ih,Zcu,Zcu];grind
theorem Zjl (c : Rat) (f : Nat -> Rat) (n : Nat) : Zcu (fun i=>c * f i) n = c * Zcu f n:=by
 induction n with
 | zero=>simp [Zcu]
 | succ n ih=>rw [Zcu,ih,Zcu];grind
theorem Zlz {f : Nat -> Rat} {n : Nat} (h : ∀ i,i < n -> f i = 0) : Zcu f n = 0:=by
 induction n with
 | zero=>rfl
 | succ n ih=>rw [Zcu,ih (fun i hi=>h i (by omega)),h n (by omega)];grind
theorem Zik (p : List Int) (x : Rat) {n : Nat} (hn : p.length <= n) : Ze p x = Zcu (fun i=>(p[i]?.getD 0 : Int) * x ^ i) n:=by
 induction p generalizing n with
 | nil=>rw [Zlz (fun i _=>by simp)];rfl
 | cons a l ih =>
  cases n with
  | zero=>simp at hn
  | succ n =>
   rw [Zg2];have h:=ih (n:=n) (by simpa using hn);rw [Ze,h,<- Zjl]
   have e : Zcu (fun i=>x * ((l[i]?.getD 0 : Int) * x ^ i)) n = Zcu (fun i=>(((a :: l)[i + 1]?.getD 0 : Int) : Rat) * x ^ (i + 1)) n:=Zfd fun i _=>by
    simp only [List.getElem?_cons_succ,Rat.pow_succ];grind
   rw [e]
   simp [Rat.pow_zero]
theorem Zg1 (f : Nat -> Int) (n i : Nat) (h : ∀ j,n <= j -> f j = 0) : ((List.range n).map f)[i]?.getD 0 = f i:=by
 by_cases hi : i < n
 ·simp [hi]
 ·rw [List.getElem?_eq_none (by simp;omega),h i (by omega)];rfl
theorem Zju {p : List Int} {i : Nat} (h : p.length <= i) : p[i]?.getD 0 = 0:=by rw [List.getElem?_eq_none h];rfl
theorem Zos (f : Nat -> Int) (n : Nat) : Zcr f (n + 1) = f 0 + Zcr (fun i=>f (i + 1)) n:=by
 induction n with
 | zero=>simp [Zcr]
 | succ n ih=>rw [Zcr,ih,Zcr];omega
theorem Zsx (a : Int) (p q : List Int) (j : Nat) : coP (a :: p) q (j + 1) = a * q[j + 1]?.getD 0 + coP p q j:=by
 unfold coP;rw [Zos];simp only [List.getElem?_cons_zero,Option.getD_some,Nat.sub_zero,List.getElem?_cons_succ,Nat.add_sub_add_right]
theorem Zi9 {p q : List Int} {j : Nat} (h : p.length + q.length - 1 <= j) : coP p q j = 0:=by
 unfold coP
 refine Zle fun i hi=>?_
 by_cases h1 : p.length <= i
 ·rw [Zju h1];simp
 ·rw [Zju (p:=q) (by omega)];simp
theorem Zfu (p q : List Int) (x : Rat) {n : Nat} (hn : p.length + q.length <= n) : Zcu (fun j=>(coP p q j : Int) * x ^ j) n = Ze p x * Ze q x:=by
 induction p generalizing n with
 | nil =>
  rw [Zlz (fun i _=>by rw [show coP [] q i = 0 from Zle (fun _ _=>by simp)];simp)]
  simp [Ze]
 | cons a l ih =>
  cases n with
  | zero=>simp at hn
  | succ n =>
   simp only [List.length_cons] at hn;have h:=ih (n:=n) (by omega);rw [Zg2]
   have e : Zcu (fun i=>(coP (a :: l) q (i + 1) : Int) * x ^ (i + 1)) n = Zcu (fun i=>(a : Rat) * ((q[i + 1]?.getD 0 : Int) * x ^ (i + 1))) n + Zcu (fun i=>x * ((coP l q i : Int) * x ^ i)) n:=by
    rw [<- Zny]
    refine Zfd fun i _=>?_
    rw [Zsx,Rat.intCast_add,Rat.intCast_mul,Rat.pow_succ]
    grind
   have e0 : coP (a :: l) q 0 = a * q[0]?.getD 0:=by simp [coP,Zcr]
   rw [e,Zjl,Zjl,h,e0];have hq:=Zik q x (n:=n + 1) (by omega);rw [Zg2] at hq;show _ = ((a : Rat) + x * Ze l x) * Ze q x;rw [Rat.add_mul,hq,Rat.intCast_mul];rw [<- hq];simp only [Rat.pow_zero] at hq ⊢
   grind
theorem Zev (p q : List Int) (x : Rat) : Ze (Zef p q) x = Ze p x * Ze q x:=by
 rw [Zik (Zef p q) x (n:=p.length + q.length) (by simp [Zef]),<- Zfu p q x (Nat.le_refl _)]
 refine Zfd fun i _=>?_
 rw [Zef,Zg1 (coP p q) _ _ (fun j hj=>Zi9 hj)]
theorem Zrq (p q : List Int) (i : Nat) : (Zef p q)[i]?.getD 0 = coP p q i:=by
 rw [Zef,Zg1 (coP p q) _ _ (fun j hj=>Zi9 hj)]
theorem Zqe (p : List Int) (i : Nat) : (Zaj p)[i]?.getD 0 = p[i + 1]?.getD 0 * ((i + 1 : Nat) : Int):=by
 rw [Zaj,Zg1 (fun i=>p[i + 1]?.getD 0 * ((i + 1 : Nat) : Int)) _ _ (fun j hj=>by rw [Zju (by omega)];simp)]
theorem Zsg {p : List Int} (h : p[p.length - 1]?.getD 0 ≠ 0) : Zaf p ≠ 0:=by
 obtain ⟨k,hk⟩ : ∃ k,p.length = k + 1:=by
  cases hl : p.length with
  | zero=>rw [List.eq_nil_of_length_eq_zero hl] at h;simp at h
  | succ k=>exact ⟨k,rfl⟩
 rw [hk,Nat.add_sub_cancel] at h;unfold Zaf;rw [hk];show Zfr _ _ ≠ 0;unfold Zfr;have : 0 < Nat.gcd (Zcn p k).natAbs (p[k]?.getD 0).natAbs:=Nat.gcd_pos_of_pos_right _ (by omega);omega
theorem Zn8 {p : List Int} (h : p[p.length - 1]?.getD 0 ≠ 0) : signP p ≠ 0:=by
 have:=Zsg h;unfold signP
 split <;> omega
theorem Zp5 {w : World} {A : Option Addr} {n c : Nat} {es : List WE} (hL : WL w A n c es) (kp : pOk es = true) : n = 0 \/ (es.map WE.num)[(es.map WE.num).length - 1]?.getD 0 ≠ 0:=by
 obtain ⟨_,hpk⟩:=Zbw kp
 rcases Nat.eq_zero_or_pos n with h | h
 ·exact .inl h
 ·refine .inr ?_
  have hl:=hL.len;have hm : es[n - 1]? = some (es[n - 1]'(by omega)):=List.getElem?_eq_getElem (by omega);have hmem : es[n - 1]'(by omega) ∈ es:=List.getElem_mem _
  generalize es[n - 1]'(by omega) = e at hm hmem
  rw [List.length_map,hl,List.getElem?_map,hm];have hz:=WE.num_zero (hL.2.2.2.2 e hmem) (hpk e hmem).1;intro h0;have hn0:=hz.2 h0
  have hgl : es.getLast? = some e:=by rw [List.getLast?_eq_getElem?,hl];exact hm
  unfold pOk at kp;rw [hgl] at kp
  simp at kp
  have h3:=(hL.2.2.2.2 e hmem).len;exact kp.2 (List.eq_nil_of_length_eq_zero (by omega))
theorem Zck {es : List WE} (kp : pOk es = true) : es.length <= 9:=(Zbw kp).1
theorem Zms {es : List WE} (kp : pOk es = true) : ∀ e ∈ es,e.ok = true:=fun e he=>((Zbw kp).2 e he).1
def DivC : Prop:=∀ (A B : Option Addr) (n c m d : Nat) (ps qs : List Int) (w : World),PolyL w A n c ps -> PolyL w B m d qs -> n <= 100 -> Zb8 ps qs = true ->
 Calls Try.prog 17 #[.slice A n c,.slice B m d] w fun e w'=>Below w.heap.size w w' /\ ∃ A1 n1 c1 A2 n2 c2,e = .returned (.tuple #[.slice A1 n1 c1,.slice A2 n2 c2]) /\ PolyL w' A1 n1 c1 (Zf (Zan ps qs).1) /\ PolyL w' A2 n2 c2 (Zan ps qs).2
theorem Zhw (A : Option Addr) (n c : Nat) (ps : List Int) (w : World) (h : PolyL w A n c ps) (hn : n <= 1000) (hg : n = 0 \/ signP ps ≠ 0) :
    Calls Try.prog 19 #[.slice A n c] w fun e w'=>Below w.heap.size w w' /\ ∃ A' c',e = .returned (.slice A' n c') /\ PolyL w' A' n c' (Zh ps):=by
 obtain ⟨es,h1,rfl,h3⟩:=h;exact part_ok A n c es w h1 h3 hn hg
theorem Zey {xs : List Int} (h : ∀ x,xs.getLast? = some x -> x ≠ 0) : xs.length = 0 \/ signP xs ≠ 0:=by
 cases hl : xs.length with
 | zero=>exact .inl rfl
 | succ k =>
  refine .inr (Zn8 ?_);obtain ⟨y,hy⟩ : ∃ y,xs[k]? = some y:=⟨xs[k]'(by omega),List.getElem?_eq_getElem (by omega)⟩;rw [hl,Nat.add_sub_cancel,hy];exact h y (by rw [List.getLast?_eq_getElem?,hl,Nat.add_sub_cancel,hy])
theorem Zon (q : List Int) : ∀ k quot rest,Zdm q k quot rest = true -> (Zec q k quot rest).2.length < q.length /\ ∃ r,(Zec q k quot rest).2 = Zf r:=by
 intro k
 induction k with
 | zero =>
  intro quot rest h;simp only [Zdm,Bool.and_eq_true,decide_eq_true_eq] at h;exact ⟨h.2,rest,rfl⟩
 | succ k ih =>
  intro quot rest h;simp only [Zdm,Bool.and_eq_true] at h;unfold Zec
  by_cases hl : (Zf rest).length < q.length
  ·rw [if_pos hl];exact ⟨hl,rest,rfl⟩
  ·rw [if_neg hl] at h ⊢
   exact ih _ _ h.2
theorem Zm7 {p q : List Int} (h : Zb8 p q = true) : (Zan p q).2.length < q.length /\ ((Zan p q).2.length = 0 \/ signP (Zan p q).2 ≠ 0):=by
 simp only [Zb8,Bool.and_eq_true] at h;obtain ⟨h1,r,h2⟩:=Zon q _ _ _ h.2;refine ⟨h1,?_⟩;have e : (Zan p q).2 = Zf r:=h2;rw [e];exact Zey (Zb0 r)
def lenOf : Value -> Nat
 | .slice _ n _=>n
 | _=>0
theorem Zm3 (p : List Int) : (Zh p).length = p.length:=by simp [Zh]
theorem Zlp (hD : DivC) (A B : Option Addr) (n c m d : Nat) (ps qs : List Int) (w : World) (hp : PolyL w A n c ps) (hq : PolyL w B m d qs) (hn : n <= 100) (hm : m <= 100) (sp : n = 0 \/ signP ps ≠ 0) (sq : m = 0 \/ signP qs ≠ 0) (hok : Zbz ((Zh qs).length + 1) (Zh ps) (Zh qs) = true) :
    Calls Try.prog 13 #[.slice A n c,.slice B m d] w (Zi8 w (Za1 ps qs)):=by
 have h0:=Zhw A n c ps w hp (by omega) sp;replace hD:=Zb hD;replace hq:=Zb hq;go_enter Try.func13,Try.ntmps13;go_wp2_with fail;refine h0.mono ?_;rintro e w1 ⟨hb1,A1,c1,rfl,hP1⟩;clear h0;go_wp2_with fail;refine (Zhw B m d qs w1 (hq.out.below hb1) (by omega) sq).mono ?_;rintro e w2 ⟨hb2,A2,c2,rfl,hP2⟩;replace hP1:=hP1.below hb2;have hB2:=hb1.trans (hb2.mono hb1.size);go_wp2_with fail
 go_loopw [0,1] (fun pv qv wr=>∃ (k : Nat) (p q : List Int) (Ap Aq : Option Addr) (cp cq : Nat),pv = .slice Ap p.length cp /\ qv = .slice Aq q.length cq /\ PolyL wr Ap p.length cp p /\ PolyL wr Aq q.length cq q /\ p.length <= 100 /\ q.length <= 100 /\ Hid (Zet k p q = Za1 ps qs) /\ Hid (Zbz k p q = true) /\ Below w.heap.size w wr) (fun _ qv _=>lenOf qv)
 case atStart =>
  have l1:=hP1.len;have l2:=hP2.len;exact ⟨_,Zh ps,Zh qs,A1,A2,c1,c2,by rw [l1],by rw [l2],by rw [l1];exact hP1,by rw [l2];exact hP2,by omega,by omega,Zb rfl,Zb hok,hB2⟩
 case round =>
  clear hP1 hP2 hB2 hb2 hb1 hok;obtain ⟨k,p,q,Ap,Aq,cp,cq,rfl,rfl,hP,hQ,lp,lq,hc,ho,hbr⟩:=hrel;obtain ⟨np,hnp⟩ : ∃ np,p.length = np:=⟨_,rfl⟩;obtain ⟨nq,hnq⟩ : ∃ nq,q.length = nq:=⟨_,rfl⟩;rw [hnp] at hP lp ⊢;rw [hnq] at hQ lq ⊢
  by_cases h0 : nq = 0
  ·have htk : decide ((0 : Int) < (nq : Int)) = false:=by simp;omega
   have htk' : decide (0 < nq) = false:=by simp;omega
   have hqe : q = []:=List.eq_nil_of_length_eq_zero (by omega)
   have hfin : Za1 ps qs = p:=by
    rw [<- hc.out]
    cases k with
    | zero=>rfl
    | succ k=>unfold Zet;rw [if_pos hqe]
   replace hfin:=Zb hfin;replace hnp:=Zb hnp;replace hnq:=Zb hnq;replace h0:=Zb h0;replace hqe:=Zb hqe;go_wp2_with fail;go_ret;exact ⟨_,_,_,rfl,by rw [hfin.out];exact hP,hbr⟩
  ·have htk : decide ((0 : Int) < (nq : Int)) = true:=by simp;omega
   have htk' : decide (0 < nq) = true:=by simp;omega
   have hqe : q ≠ []:=by intro h;rw [h] at hnq;simp at hnq;omega
   obtain ⟨j,rfl⟩ : ∃ j,k = j + 1:=by
    cases k with
    | zero=>have:=ho.out;simp [Zbz,hqe] at this
    | succ j=>exact ⟨j,rfl⟩
   have hc2:=hc.out;have ho2:=ho.out;unfold Zet at hc2;unfold Zbz at ho2;rw [if_neg hqe] at hc2 ho2;rw [Bool.and_eq_true] at ho2;obtain ⟨hlt,hsg⟩:=Zm7 ho2.1;have hdv:=hD.out Ap Aq np cp nq cq p q wr hP hQ (by omega) ho2.1;replace hc2:=Zb hc2;replace ho2:=Zb ho2;replace hnp:=Zb hnp;rw [hnq] at hlt;replace hnq:=Zb hnq;replace hsg:=Zb hsg;replace hqe:=Zb hqe;obtain ⟨rr,hrr⟩ : ∃ rr,(Zan p q).2 = rr:=⟨_,rfl⟩;rw [hrr] at hdv hlt hsg hc2 ho2;replace hrr:=Zb hrr;clear hc ho hP;go_wp2_with fail;refine hdv.mono ?_;rintro e w3 ⟨hb3,A3,n3,c3,A4,n4,c4,rfl,-,hR⟩;clear hdv;replace hQ:=hQ.below hb3;have hB3:=hbr.trans (hb3.mono hbr.size);have l4:=hR.len;go_wp2_with fail;refine (Zhw A4 n4 c4 rr w3 hR (by omega) (by rw [<- l4];exact hsg.out)).mono ?_;rintro e w4 ⟨hb4,A5,c5,rfl,hP5⟩;have hB4:=hB3.trans (hb4.mono hB3.size);replace hQ:=Zb (hQ.below hb4);replace hP5:=Zb hP5;replace l4:=Zb l4
   have hl5 : (Zh rr).length = n4:=by rw [Zm3];exact l4.out
   replace hl5:=Zb hl5;go_wp2_with fail
   go_roundw
   case rel=>exact ⟨j,q,Zh rr,Aq,A5,cq,c5,by rw [hnq.out],by rw [hl5.out],by rw [hnq.out];exact hQ.out,by rw [hl5.out];exact hP5.out,by rw [hnq.out];omega,by rw [hl5.out];have:=l4.out;omega,hc2,Zb ho2.out.2,hB4⟩
   case measure=>simp [lenOf];have:=l4.out;omega
theorem Zsd (q : List Int) : ∀ k quot rest,(Zec q k quot rest).1.length = quot.length:=by
 intro k
 induction k with
 | zero=>intro quot rest;rfl
 | succ k ih =>
  intro quot rest;unfold Zec
  by_cases h : (Zf rest).length < q.length
  ·rw [if_pos h]
  ·rw [if_neg h,ih]
   simp [byG,Zbe]
theorem Zsu (p q : List Int) : (Zf (Zan p q).1).length <= p.length + 1:=by
 refine Nat.le_trans (Zmq _) ?_;unfold Zan;rw [Zsd,List.length_replicate];omega
theorem Zj0 {w : World} {A : Option Addr} {n c : Nat} {es : List WE} (hL : WL w A n c es) (kp : pOk es = true) : n = 0 \/ signP (es.map WE.num) ≠ 0:=(Zp5 hL kp).imp id Zn8
theorem pGcd_ok (hD : DivC) (A B : Option Addr) (n c m d : Nat) (ps qs : List WE) (w : World) (hp : WL w A n c ps) (hq : WL w B m d qs) (kp : pOk ps = true) (kq : pOk qs = true) (hok : Zbz ((Zh (qs.map WE.num)).length + 1) (Zh (ps.map WE.num)) (Zh (qs.map WE.num)) = true) :
    Calls Try.prog 6 #[.slice A n c,.slice B m d] w (ResPoly w (Za1 (ps.map WE.num) (qs.map WE.num))):=by
 have i0 : ∀ W,(Instr.index 36 (.agg #[.slice A n c,.slice B m d]) (.int .i64 0)).run Try.prog W = .ok (.slice A n c) W:=fun _=>by kernel_rfl
 have i1 : ∀ W,(Instr.index 36 (.agg #[.slice A n c,.slice B m d]) (.int .i64 1)).run Try.prog W = .ok (.slice B m d) W:=fun _=>by kernel_rfl
 have hT : ∀ W,WL W A n c ps -> WL W B m d qs -> Hid (Calls Try.prog 13 #[.slice A n c,.slice B m d] W (Zi8 W (Za1 (ps.map WE.num) (qs.map WE.num)))):=fun W h1 h2=>Zb (by
  have l1:=Zck kp;have l2:=Zck kq;rw [h1.len] at l1;rw [h2.len] at l2
  exact Zlp hD A B n c m d _ _ W ⟨ps,h1,rfl,Zms kp⟩ ⟨qs,h2,rfl,Zms kq⟩ (by omega) (by omega) (Zj0 h1 kp) (Zj0 h2 kq) hok)
 replace kp : Hid (Zbg (pOk ps) = 0):=by unfold Hid;rw [kp];rfl
 replace kq : Hid (Zbg (pOk qs) = 0):=by unfold Hid;rw [kq];rfl
 clear hok;go_enter Try.func6,Try.ntmps6;go_wp2_with fail;refine wp_loop_rounds 3 ?_;rw [rounds_succ];go_wp2_with fail;refine (Zbq _ _ _ _ _ hp).mono ?_;rintro e w1 ⟨he1,hb1⟩;rw [kp.out] at he1;subst he1;go_wp2_with fail;rw [rounds_succ];go_wp2_with fail;refine (Zbq _ _ _ _ _ (hq.below hb1)).mono ?_;rintro e w2 ⟨he2,hb2⟩;rw [kq.out] at he2;subst he2;have hB2 : Below w.heap.size w w2:=hb1.trans (hb2.mono hb1.size);go_wp2_with fail;rw [rounds_succ];go_wp2_with fail;refine (hT w2 (hp.below hB2) (hq.below hB2)).out.mono ?_;rintro e w3 ⟨A3,n3,c3,rfl,hP3,hb3⟩;have hB3:=hB2.trans (hb3.mono hB2.size);clear hT;go_wp2_with fail;refine (Zl8 _ _ _ _ _ hP3).mono ?_;rintro e w4 ⟨hb4,A4,n4,c4,code4,rfl,hR4⟩;have hB4:=hB3.trans (hb4.mono hB3.size);replace hR4:=Zb hR4;go_wp2_with fail;go_returns;exact ⟨hB4,_,_,_,_,rfl,hR4.out⟩
theorem Zsn (hD : DivC) (A : Option Addr) (n c : Nat) (ps : List WE) (w : World) (hp : WL w A n c ps) (kp : pOk ps = true) (h0 : 0 < n) (sd : (Zaj (ps.map WE.num)).length = 0 \/ signP (Zaj (ps.map WE.num)) ≠ 0)
    (hok : Zbz ((Zh (Zaj (ps.map WE.num))).length + 1) (Zh (ps.map WE.num)) (Zh (Zaj (ps.map WE.num))) = true) (hok2 : Zb8 (ps.map WE.num) (Za1 (ps.map WE.num) (Zaj (ps.map WE.num))) = true) :
    Calls Try.prog 8 #[.slice A n c] w (ResPoly w (Zbl (ps.map WE.num))):=by
 have l1:=Zck kp;rw [hp.len] at l1
 have hd0:=fun W (h : WL W A n c ps)=>Zmy A n c ps W h kp
 have hsp:=Zb (Zj0 hp kp);have hk:=Zms kp;have hP : Hid (∀ W,Below w.heap.size w W -> PolyL W A n c (ps.map WE.num)):=Zb (fun W hb=>⟨ps,hp.below hb,rfl,hk⟩)
 replace kp : Hid (Zbg (pOk ps) = 0):=by unfold Hid;rw [kp];rfl
 have t0 : ((n : Int) == 0) = false:=by simp;omega
 have t0' : decide (n = 0) = false:=by simp;omega
 have t0'' : (n == 0) = false:=by simp;omega
 have hdl : (Zaj (ps.map WE.num)).length = n - 1:=by rw [<- hp.len];simp [Zaj]
 replace hdl:=Zb hdl;obtain ⟨xs,hxs⟩ : ∃ xs,ps.map WE.num = xs:=⟨_,rfl⟩;rw [hxs] at hsp hP sd hok hok2 hdl ⊢;replace hok:=Zb hok;replace hok2:=Zb hok2;replace sd:=Zb sd;replace h0:=Zb h0;replace hd0:=Zb hd0;go_enter Try.func8,Try.ntmps8;go_wp2_with fail;refine (Zbq _ _ _ _ _ hp).mono ?_;rintro e w1 ⟨he1,hb1⟩;rw [kp.out] at he1;subst he1;go_wp2_with fail;refine (hd0.out w1 (hp.below hb1)).mono ?_;rw [hxs];replace hxs:=Zb hxs;rintro e w2 ⟨A2,n2,c2,rfl,hP2,hb2⟩;have hB2:=hb1.trans (hb2.mono hb1.size);have l2:=hP2.len;have l3:=hdl.out;clear hd0;replace l2:=Zb l2;replace l3:=Zb l3;go_wp2_with fail;refine (Zlp hD A A2 n c n2 c2 xs (Zaj xs) w2 (hP.out _ hB2) hP2 (by omega) (by have:=l2.out;have:=l3.out;omega) hsp.out (by have:=l2.out;rcases sd.out with h | h;exact .inl (by omega);exact .inr h) hok.out).mono ?_;rintro e w3 ⟨A3,n3,c3,rfl,hP3,hb3⟩;have hB3:=hB2.trans (hb3.mono hB2.size);clear hP2;go_wp2_with fail;refine (hD A A3 n c n3 c3 xs _ w3 (hP.out _ hB3) hP3 (by omega) hok2.out).mono ?_;rintro e w4 ⟨hb4,A4,n4,c4,A5,n5,c5,rfl,hQ4,-⟩;have hB4:=hB3.trans (hb4.mono hB3.size);have l4:=hQ4.len;clear hP3
 have hn4 : n4 <= 1000:=by
  rw [<- l4];refine Nat.le_trans (Zsu _ _) ?_;have:=(hP.out w4 hB4).len;omega
 replace l4:=Zb l4;go_wp2_with fail;refine (Zhw A4 n4 c4 _ w4 hQ4 hn4 (by rw [<- l4.out];exact Zey (Zb0 _))).mono ?_;rintro e w5 ⟨hb5,A6,c6,rfl,hP5⟩;have hB5:=hB4.trans (hb5.mono hB4.size);go_wp2_with fail;refine (Zl8 _ _ _ _ _ hP5).mono ?_;rintro e w6 ⟨hb6,A7,n7,c7,code7,rfl,hR⟩;have hB6:=hB5.trans (hb6.mono hB5.size);replace hR:=Zb hR;go_wp2_with fail;go_returns;exact ⟨hB6,_,_,_,_,rfl,hR.out⟩
theorem Zo0 {p : List Int} : ∀ {k : Nat},Zcn p k = 0 -> ∀ i,i < k -> p[i]?.getD 0 = 0:=by
 intro k
 induction k with
 | zero=>intro _ i hi;omega
 | succ k ih =>
  intro h i hi;unfold Zcn Zfr at h
  have h1 : Nat.gcd (Zcn p k).natAbs (p[k]?.getD 0).natAbs = 0:=by omega
  rw [Nat.gcd_eq_zero_iff] at h1
  rcases Nat.lt_or_ge i k with h2 | h2
  ·exact ih (by omega) i h2
  ·obtain rfl : i = k:=by omega
   omega
theorem Zg9 {p : List Int} (h : Zaf p = 0) (i : Nat) : p[i]?.getD 0 = 0:=by
 rcases Nat.lt_or_ge i p.length with h1 | h1
 ·exact Zo0 h i h1
 ·rw [List.getElem?_eq_none h1];rfl
theorem Znh (xs : List Int) : (Zf xs).length <= xs.length:=by
 induction xs with
 | nil=>exact Nat.le_refl _
 | cons x l ih =>
  unfold Zf
  split
  ·split <;> simp
  ·rename_i y m hm
   rw [hm] at ih;simp only [List.length_cons] at ih ⊢;omega
theorem Zlw (xs : List Int) : ∃ zs,xs = Zf xs ++ zs:=by
 induction xs with
 | nil=>exact ⟨[],rfl⟩
 | cons x l ih =>
  obtain ⟨zs,h⟩:=ih;unfold Zf
  split
  ·rename_i hm
   rw [hm] at h
   split
   ·exact ⟨x :: zs,by rw [List.nil_append] at h;rw [h];rfl⟩
   ·exact ⟨zs,by rw [List.nil_append] at h;rw [h];rfl⟩
  ·rename_i y m hm
   rw [hm] at h;exact ⟨zs,by rw [h];rfl⟩
theorem Zjo {xs : List Int} (h0 : 0 < xs.length) (h : xs[xs.length - 1]?.getD 0 = 0) : (Zf xs).length < xs.length:=by
 rcases Nat.lt_or_ge (Zf xs).length xs.length with h1 | h1
 ·exact h1
 ·exfalso
  obtain ⟨zs,hz⟩:=Zlw xs
  have hl : zs = []:=by
   have:=congrArg List.length hz;rw [List.length_append] at this;exact List.eq_nil_of_length_eq_zero (by omega)
  rw [hl,List.append_nil] at hz;have hlast:=Zb0 xs;rw [<- hz] at hlast;rw [List.getLast?_eq_getElem?] at hlast;rw [List.getElem?_eq_getElem (by omega)] at h hlast;exact hlast _ rfl (by simpa using h)
theorem Za4 (rest q : List Int) : (Zaw rest q).length = rest.length:=by simp [Zaw]
theorem Zdv (quot rest q : List Int) : (Zbe quot rest q).length = quot.length:=by simp [Zbe]
theorem Zct (l : List Int) (g : Int) : (byG l g).length = l.length:=by simp [byG]
theorem Zjb (l : List Int) (g : Int) (i : Nat) : (byG l g)[i]?.getD 0 = Int.fdiv (l[i]?.getD 0) g:=by
 unfold byG;rw [List.getElem?_map]
 cases h : l[i]? <;> simp
theorem Zeu {rest q : List Int} {i : Nat} (h : i < rest.length) : (Zaw rest q)[i]?.getD 0 = rest[i]?.getD 0 * q[q.length - 1]?.getD 0 - (if rest.length - q.length <= i then q[i - (rest.length - q.length)]?.getD 0 * rest[rest.length - 1]?.getD 0 else 0):=by
 simp [Zaw,h]
theorem Zhc {rest q : List Int} (h0 : 0 < q.length) (h : q.length <= rest.length) : (Zaw rest q)[rest.length - 1]?.getD 0 = 0:=by
 rw [Zeu (by omega),if_pos (by omega),show rest.length - 1 - (rest.length - q.length) = q.length - 1 by omega,Int.mul_comm,Int.sub_self]
theorem Zgl (quot rest q : List Int) (i : Nat) : (Zbe quot rest q)[i]?.getD 0 = if i = rest.length - q.length /\ i < quot.length then quot[i]?.getD 0 * q[q.length - 1]?.getD 0 + rest[rest.length - 1]?.getD 0 else quot[i]?.getD 0 * q[q.length - 1]?.getD 0:=by
 unfold Zbe;rw [List.getElem?_set,List.length_map]
 by_cases hi : rest.length - q.length = i
 ·subst hi
  rw [if_pos rfl]
  by_cases hl : rest.length - q.length < quot.length
  ·rw [if_pos hl,if_pos ⟨rfl,hl⟩];rfl
  ·rw [if_neg hl,if_neg (fun h=>hl h.2),List.getElem?_eq_none (by omega)];simp
 ·rw [if_neg hi,if_neg (fun h=>hi h.1.symm),List.getElem?_map]
  cases quot[i]? <;> simp
def Zlu (q quot rest : List Int) : Prop:=∀ j,j + q.length <= (Zf rest).length -> quot[j]?.getD 0 = 0
theorem Zhd {q quot rest : List Int} (h0 : 0 < q.length) (hz : Zlu q quot rest) (h : q.length <= (Zf rest).length) :
    Zlu q (byG (Zbe quot (Zf rest) q) (Zbs quot (Zf rest) q)) (byG (Zaw (Zf rest) q) (Zbs quot (Zf rest) q)):=by
 intro j hj
 have h1 : (Zf (byG (Zaw (Zf rest) q) (Zbs quot (Zf rest) q))).length < (Zf rest).length:=by
  have:=Zjo (xs:=byG (Zaw (Zf rest) q) (Zbs quot (Zf rest) q)) (by rw [Zct,Za4];omega) (by rw [Zjb,Zct,Za4,Zhc h0 h];simp);rw [Zct,Za4] at this;exact this
 rw [Zjb,Zgl,if_neg (by omega),hz j (by omega)]
 simp
theorem Zn3 {q quot rest : List Int} (hz : Zlu q quot rest) (h0 : 0 < q.length) (h : q.length <= (Zf rest).length) (hl : (Zf rest).length - q.length < quot.length) : Zbs quot (Zf rest) q ≠ 0:=by
 intro hg;unfold Zbs Zfr at hg
 have h1 : Zaf (Zbe quot (Zf rest) q) = 0:=by
  have:=(Nat.gcd_eq_zero_iff (i:=(Zaf (Zaw (Zf rest) q)).natAbs) (j:=(Zaf (Zbe quot (Zf rest) q)).natAbs)).1 (by omega);omega
 have h2:=Zg9 h1 ((Zf rest).length - q.length);rw [Zgl,if_pos ⟨rfl,hl⟩,hz _ (by omega),Int.zero_mul,Int.zero_add] at h2;have h3:=Zb0 rest;rw [List.getLast?_eq_getElem?,List.getElem?_eq_getElem (by omega)] at h3;rw [List.getElem?_eq_getElem (by omega)] at h2;exact h3 _ rfl (by simpa using h2)
theorem Zgi {q quot rest : List Int} (h : (Zf rest).length < q.length) (k : Nat) : Zec q k quot rest = (quot,Zf rest):=by
 cases k with
 | zero=>rfl
 | succ k=>unfold Zec;rw [if_pos h]
theorem Zng {q : List Int} {k : Nat} {quot rest : List Int} (h : Zdm q k quot rest = true) : smallP quot = true /\ smallP rest = true:=by
 cases k <;> (simp only [Zdm,Bool.and_eq_true] at h;exact h.1 |> fun h=>by first | exact h | exact h.1)
theorem Zkl {q : List Int} {k : Nat} {quot rest : List Int} (h : Zdm q k quot rest = true) (hl : ¬ (Zf rest).length < q.length) : ∃ j,k = j + 1 /\ Zec q k quot rest = Zec q j (byG (Zbe quot (Zf rest) q) (Zbs quot (Zf rest) q)) (byG (Zaw (Zf rest) q) (Zbs quot (Zf rest) q)) /\ Zdm q j (byG (Zbe quot (Zf rest) q) (Zbs quot (Zf rest) q)) (byG (Zaw (Zf rest) q) (Zbs quot (Zf rest) q)) = true:=by
 cases k with
 | zero=>simp only [Zdm,Bool.and_eq_true,decide_eq_true_eq] at h;exact absurd h.2 hl
 | succ j =>
  refine ⟨j,rfl,?_,?_⟩
  ·rw [Zec,if_neg hl]
  ·simp only [Zdm,Bool.and_eq_true] at h
   rw [if_neg hl] at h;exact h.2
theorem Zd4 {l : List Int} (h : smallP l = true) (i : Nat) : (l[i]?.getD 0).natAbs < pw 1000:=by
 unfold smallP at h;rw [List.all_eq_true] at h
 rcases Nat.lt_or_ge i l.length with h1 | h1
 ·rw [List.getElem?_eq_getElem h1]
  simpa using h _ (List.getElem_mem h1)
 ·rw [List.getElem?_eq_none h1];exact Za7 _
theorem Zc7 {a b : Int} (ha : a.natAbs < pw 1000) (hb : b.natAbs < pw 1000) : (a * b).natAbs < pw 2000:=by
 rw [Int.natAbs_mul,show 2000 = 1000 + 1000 by rfl,Zco];exact Nat.mul_lt_mul'' ha hb
theorem Zjv (l : List Int) (c : Int) (i : Nat) : (l.map (· * c))[i]?.getD 0 = l[i]?.getD 0 * c:=by
 rw [List.getElem?_map]
 cases l[i]? <;> simp
theorem Zq5 {a b : Int} (ha : a.natAbs < pw 2000) (hb : b.natAbs < pw 1000) : (a + b).natAbs < pw 4096:=by
 have h1:=Zdn (show 2001 <= 4096 by omega);rw [show 2001 = 2000 + 1 by rfl,Zal] at h1;have h2:=Zdn (show 1000 <= 2000 by omega);have h3:=Za7 2000
 generalize pw 2000 = M at *
 generalize pw 1000 = M' at *
 omega
theorem Zqw {a b : Int} (ha : a.natAbs < pw 2000) (hb : b.natAbs < pw 2000) : (a - b).natAbs < pw 4096:=by
 have h1:=Zdn (show 2001 <= 4096 by omega);rw [show 2001 = 2000 + 1 by rfl,Zal] at h1;have h3:=Za7 2000
 generalize pw 2000 = M at *
 omega
theorem Zhm {z : Int} (h : z.natAbs < pw 2000) : z.natAbs < pw 4096:=Nat.lt_of_lt_of_le h (Zdn (by omega))
structure Kept (G : Nat -> Prop) (w w' : World) : Prop where
 os : w'.os = w.os
 tape : w'.tape = w.tape
 output : w'.output = w.output
 size : w.heap.size <= w'.heap.size
 block : ∀ k,k < w.heap.size -> ¬ G k -> w'.heap[k]? = w.heap[k]?
section
variable {G : Nat -> Prop} {w w' w'' : World}
theorem Kept.refl (G : Nat -> Prop) (w : World) : Kept G w w:=⟨rfl,rfl,rfl,Nat.le_refl _,fun _ _ _=>rfl⟩
theorem Kept.trans (h : Kept G w w') (k : Kept G w' w'') : Kept G w w'':=
 ⟨k.os.trans h.os,k.tape.trans h.tape,k.output.trans h.output,Nat.le_trans h.size k.size,fun i hi hg=>(k.block i (Nat.lt_of_lt_of_le hi h.size) hg).trans (h.block i hi hg)⟩
theorem Kept.of_below (h : Below w.heap.size w w') : Kept G w w':=⟨h.os,h.tape,h.output,h.size,fun k hk _=>h.block k hk⟩
theorem Kept.below (h : Kept G w w') (k : Below w'.heap.size w' w'') : Kept G w w'':=h.trans (Kept.of_below k)
theorem Kept.set_ (h : Kept G w w') {p : Addr} (hp : G p.block \/ w.heap.size <= p.block) (u : Value) : Kept G w (w'.setCell p u):=
 ⟨h.os,h.tape,h.output,by simp [World.setCell];exact h.size,fun k hk hg=>(Below.heap_setCell w' p u k (by rcases hp with hp | hp;exact fun e=>hg (e ▸ hp);omega)).trans (h.block k hk hg)⟩
theorem Kept.blk (h : Kept G w w') {g : Nat} {t : TypeId} {cs : Array Value} (hb : Blk w g t cs) (hg : ¬ G g) : Blk w' g t cs:=(h.block g hb.lt hg).trans hb
theorem Kept.to_below {B : Nat} (h : Kept G w w') (hG : ∀ k,G k -> B <= k) (hB : B <= w.heap.size) : Below B w w':=
 ⟨h.os,h.tape,h.output,h.size,fun k hk=>h.block k (Nat.lt_of_lt_of_le hk hB) (fun hg=>by have:=hG k hg;omega)⟩
theorem Kept.lim (h : Kept G w w') {A : Option Addr} {n c : Nat} {l : List Nat} (hl : Lim w A n c l) (hG : ∀ k,G k -> ∃ t cs,Blk w k t cs /\ NoLimb cs) : Lim w' A n c l:=
 ⟨hl.1,hl.2.1,hl.2.2.1,hl.2.2.2.1,fun hn=>by
  obtain ⟨b,o,e,hc⟩:=hl.2.2.2.2 hn;refine ⟨b,o,e,fun k hk=>?_⟩;have h0:=hc k hk;refine (World.cell?_of_block (w:=w) (h.block b (Zn h0) (fun hg=>?_))).trans h0;obtain ⟨t,cs,h1,h2⟩:=hG b hg;have h3:=h0;rw [h1.cell] at h3
  exact h2 _ _ h3⟩
theorem Kept.wd (h : Kept G w w') {neg : Bool} {A : Option Addr} {n c : Nat} {z : Int} (hl : Wd w neg A n c z) (hG : ∀ k,G k -> ∃ t cs,Blk w k t cs /\ NoLimb cs) : Wd w' neg A n c z:=⟨hl.1,hl.2.1,h.lim hl.2.2 hG⟩
end
section
variable {t : TypeId} {w : World} {g : Nat} {xs zs : List Int}
theorem POwn.box (h : POwn t w g xs) : ∃ t cs,Blk w g t cs /\ NoLimb cs:=by
 obtain ⟨es,h1,-,-⟩:=h;exact ⟨t,_,h1,Zb7 es⟩
theorem POwn.pre (h : POwn t w g (xs ++ zs)) {c : Nat} (hc : xs.length <= c) (hm : c <= maxLen) : PolyL w (some ⟨g,0,none⟩) xs.length c xs:=by
 obtain ⟨es,h1,h2,h3⟩:=h
 have hl : es.length = xs.length + zs.length:=by rw [<- List.length_map,h3,List.length_append]
 have ht : (es.take xs.length).map WE.num = xs:=by rw [List.map_take,h3,List.take_left]
 refine ⟨es.take xs.length,⟨by rw [List.length_take];omega,hc,hm,fun _=>⟨_,_,rfl,fun k e he=>?_⟩,fun e he=>(h2 e (List.mem_of_mem_take he)).1⟩,ht,fun e he=>(h2 e (List.mem_of_mem_take he)).2⟩;rw [List.getElem?_take] at he
 split at he
 case isFalse=>cases he
 have hc:=Zd7 he;rw [Nat.zero_add,h1.cell,h1.cell];exact hc
theorem POwn.other {t' : TypeId} {g' : Nat} {ys : List Int} (h : POwn t w g xs) (h' : POwn t' w g' ys) (hne : g ≠ g') (i : Nat) (b : Bool) (A : Option Addr) (n c : Nat) :
    POwn t ((w.setCell ⟨g',i * 2,none⟩ (.bool b)).setCell ⟨g',i * 2 + 1,none⟩ (.slice A n c)) g xs:=by
 obtain ⟨es,h1,h2,h3⟩:=h;obtain ⟨fs,k1,-,-⟩:=h';refine ⟨es,(h1.far hne _).far hne _,fun e he=>⟨?_,(h2 e he).2⟩,h3⟩;exact ((h2 e he).1.set_box k1 (Zb7 fs) _ _).set_box (k1.set_ (i * 2) (.bool b)) (Zdz _ _ _) _ _
end
theorem OnlyNormal.imp {Q : Exit -> Act -> World -> Prop} (e : Exit) (a : Act) (w : World) (h : OnlyNormal Q e a w) : Q e a w:=by
 cases e <;> first | exact h | exact (h : False).elim
theorem Zav {P : Program} {id : Nat} {ops : Array Oper} {Q : Exit -> Act -> World -> Prop} {a : Act} {w : World} (L : List Nat) (S : World -> Prop) (hm : P.follows .mixedOrders = true)
    (hS : S w.drew) (h : S w.drew -> Zag P .any ops (OnlyNormal Q) L S ops.size (Array.replicate ops.size false) a w.drew) : (Code.region id ops true).wp P Q a w:=
 Code.wp_mono OnlyNormal.imp (wp_region_any hm (Zg4 _ _ _ _ (h hS)))
theorem wp_heldS {P : Program} {id : Nat} {ops : Array Oper} {Q : Exit -> Act -> World -> Prop} {a : Act} {w w0 : World} {B : Nat} {S : World -> Prop} (L : List Nat) (hm : P.follows .mixedOrders = true)
    (hv : Hid (∀ wx,Below B w0 wx -> S wx)) (hb : Below B w0 w.drew) (h : S w.drew -> Zag P .any ops (OnlyNormal Q) L S ops.size (Array.replicate ops.size false) a w.drew) : (Code.region id ops true).wp P Q a w:=Zav L S hm (hv.out _ hb) h
theorem Zrs {l n : Nat} {P : Program} {id : Nat} {ops : Array Oper} {Q : Exit -> Act -> World -> Prop} {a : Act} {w w0 : World} {B : Nat} {S : World -> Prop} (L : List Nat) (hm : P.follows .mixedOrders = true) (hnd : Zhy ops = true)
    (hv : Hid (∀ wx,Below B w0 wx -> S wx)) (hb : Below B w0 w.drew) (h : S w.drew -> Zag P .any ops (OnlyNormal Q) L S ops.size (Array.replicate ops.size false) a w.drew) : (Code.region id ops true).wpIn (Fence.wide.inRound l) n P Q a w:=Zcs L S hm hnd (hv.out _ hb) h
section
variable {P : Program} {ops : Array Oper} {Q : Exit -> Act -> World -> Prop} {md : Region.Mode} {L : List Nat} {S : World -> Prop}
theorem Zh5 {i : Nat} {oi : Oper} {v : Value} (hi : ops[i]? = some oi) (hsel : ∀ (j : Nat) (o : Oper) cs b,ops[j]? = some o -> o.op ≠ .select cs b)
    (hQ : ∀ c a w,Q (.panic c) (a.put oi.dst v) w -> Q (.panic c) a w) (hiL : L.contains i = false) :
    ∀ (fuel : Nat) (listed : Array Bool) (a : Act) (w : World),
     (∀ j oj,ops[j]? = some oj -> j ≠ i -> listed.getD j true = false -> (∀ e ∈ oj.after,Region.binds md e = true -> e.on ≠ i) -> oi.apart ops oj = true) ->
     i ∈ Region.ready md ops listed -> YieldsIf P ops (fun _=>True) oi v a -> (Zc1 L listed = true -> S w) ->
     Zag P md ops Q L S fuel (listed.setIfInBounds i true) (a.put oi.dst v) w -> Zag P md ops Q L S (fuel + 1) listed a w:=by
 have hiL' : i ∉ L:=fun h=>by
  rw [List.contains_iff_mem.2 h] at hiL
  cases hiL
 intro fuel
 induction fuel with
 | zero =>
  intro listed a w _ hr hy hS H;refine ⟨fun h=>(by rw [h] at hr;cases hr),fun j hj=>?_⟩
  by_cases hji : j = i
  ·subst hji;exact hy.wpOp hi trivial ⟨fun h=>hS (by rwa [Zcf hiL'] at h),H⟩
  ·have:=ready_mono hj hji
   rw [H.1] at this
   cases this
 | succ fuel ih =>
  intro listed a w hfree hr hy hS H;refine ⟨fun h=>(by rw [h] at hr;cases hr),fun j hj=>?_⟩
  by_cases hji : j = i
  ·subst hji;exact hy.wpOp hi trivial ⟨fun h=>hS (by rwa [Zcf hiL'] at h),H⟩
  ·have h1:=H.2 j (ready_mono hj hji)
   obtain ⟨hjun,oj,hoj,hall⟩:=mem_ready.1 hj
   have hnot : ∀ e ∈ oj.after,Region.binds md e = true -> e.on ≠ i:=fun e he hb heq=>by
    have h1:=hall e he hb;have h0:=(mem_ready.1 hr).1;rw [heq] at h1
    rcases Nat.lt_or_ge i listed.size with h' | h'
    ·simp [h'] at h0 h1;rw [h0] at h1;cases h1
    ·simp [Array.getElem?_eq_none h'] at h1
   have h2:=wpOp_putIf hoj (hfree j oj hoj hji hjun hnot) (fun cs b=>hsel i oi cs b hi) (fun cs b=>hsel j oj cs b hoj) hQ hy h1
   have hfree' : ∀ k ok,ops[k]? = some ok -> k ≠ i -> (listed.setIfInBounds j true).getD k true = false ->
       (∀ e ∈ ok.after,Region.binds md e = true -> e.on ≠ i) -> oi.apart ops ok = true:=fun k ok hk hki hun hno=>by
    refine hfree k ok hk hki ?_ hno
    by_cases hjk : j = k
    ·subst hjk;exact hjun
    ·rw [Go.getD_set_ne true hjk] at hun;exact hun
   refine wpOp_mono (fun a' w' h3=>?_) h2
   have hSj : Zc1 L (listed.setIfInBounds j true) = true -> S w':=fun h=>h3.2.1 (by
    rw [Array.setIfInBounds_comm _ _ (Ne.symm hji),Zcf hiL'];exact h)
   refine ⟨hSj,ih (listed.setIfInBounds j true) a' w' hfree' (ready_mono hr (Ne.symm hji)) h3.1 hSj ?_⟩;rw [Array.setIfInBounds_comm _ _ hji];exact h3.2.2
theorem Zk {i : Nat} {oi : Oper} {v : Value} {fuel : Nat} {listed : Array Bool} {a : Act} {w : World} (hi : ops[i]? = some oi)
    (hs : Region.noSelect ops = true) (hf : Region.free md ops listed i = true) (hr : (Region.ready md ops listed).contains i = true) (hL : L.contains i = false)
    (hy : YieldsIf P ops (fun _=>True) oi v a) (hS : Zc1 L listed = true -> S w)
    (h : Zag P md ops (OnlyNormal Q) L S fuel (listed.setIfInBounds i true) (a.put oi.dst v) w) : Zag P md ops (OnlyNormal Q) L S (fuel + 1) listed a w:=
 Zh5 hi (Region.noSelect_spec hs) (fun _ _ _ h=>(h : False).elim) hL fuel listed a w (Region.free_spec hi hf) (by simpa using hr) hy hS h
end
section
variable {P : Program} {ops : Array Oper} {Q : Exit -> Act -> World -> Prop} {md : Region.Mode} {L : List Nat} {S : World -> Prop}
end
def Zmt (md : Region.Mode) (ops : Array Oper) (L : List Nat) : List Nat -> Array Bool -> Bool
 | [],_=>true
 | i :: is,l=>Region.free md ops l i && (Region.ready md ops l).contains i && !L.contains i && Zmt md ops L is (l.setIfInBounds i true)
section
variable {P : Program} {ops : Array Oper} {Q : Exit -> Act -> World -> Prop} {md : Region.Mode} {L : List Nat} {S : World -> Prop}
theorem Zma (hs : Region.noSelect ops = true) {w : World} (hS : S w) : ∀ (is : List Nat) (F : Nat) (listed : Array Bool) (a : Act),Zmt md ops L is listed = true -> Zeo P ops (fun _=>True) is a (fun a'=>Zag P md ops (OnlyNormal Q) L S F (Zh0 is listed) a' w) -> Zag P md ops (OnlyNormal Q) L S (F + is.length) listed a w
 | [],F,l,a,_,h=>h
 | i :: is,F,l,a,hc,h=>by
  obtain ⟨oi,v,ho,hy,h2⟩:=h;simp only [Zmt,Bool.and_eq_true,Bool.not_eq_true'] at hc;exact Zk ho hs hc.1.1.1 hc.1.1.2 hc.1.2 hy (fun _=>hS) (Zma hs hS is F _ _ hc.2 h2)
theorem Zt1 {F : Nat} {listed : Array Bool} {a : Act} {w : World} (k : Nat) (is : List Nat) (hk : is.length = k) (hc : (Region.noSelect ops && Zmt md ops L is listed) = true) (hS : S w)
    (h : Zeo P ops (fun _=>True) is a (fun a'=>Zag P md ops (OnlyNormal Q) L S F (Zh0 is listed) a' w)) : Zag P md ops (OnlyNormal Q) L S (F + k) listed a w:=by
 rw [Bool.and_eq_true] at hc;subst hk;exact Zma hc.1 hS is F listed a hc.2 h
end
end Go.Proofs.Ythappeninglakaa
