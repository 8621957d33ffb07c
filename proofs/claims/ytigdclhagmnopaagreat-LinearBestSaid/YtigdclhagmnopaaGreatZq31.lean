/- Package linear: det. -/
import Derived.Test.YtigdclhagmnopaaGreatZq30
set_option maxRecDepth 100000
set_option maxHeartbeats 8000000
set_option linter.unusedSimpArgs false
set_option linter.unusedVariables false
namespace Go.Proofs.YtigdclhagmnopaaGreat
open Go.RowKit
attribute [local go_sem] Zh
theorem OwnP.poly_at {t:TypeId} {w:World} {base:Nat} {v:Value} {xs:List Int} (h:OwnP t w base v xs):∃ A c,v=.slice A xs.length c/\xs.length <= c/\c <= maxLen/\∀ k,k < xs.length->∃ b neg A1 n1 c1,A=some ⟨b,0,none⟩/\w.cell? ⟨b,k * 2,none⟩=some (.bool neg)/\w.cell? ⟨b,k * 2+1,none⟩=some (.slice A1 n1 c1)/\Wd w neg A1 n1 c1 (xs[k]?.getD 0):=by
 obtain ⟨es,h1,h2,rfl⟩:=h
 rcases h1 with ⟨rfl,rfl⟩ | ⟨g,sp,rfl,h4,h5,h6⟩
 ·exact ⟨none,0,rfl,Nat.le_refl _,Nat.zero_le _,fun k hk=>absurd hk (by simp)⟩
 ·rw [List.length_map]
  refine ⟨_,es.length+sp,rfl,Nat.le_add_right _ _,h5,fun k hk=>?_⟩;have he:=List.getElem?_eq_getElem hk;have hc:=Zir (es:=es ++ List.replicate sp Zcj) (i:=k) (e:=es[k]) (by rw [List.getElem?_append_left hk];exact he);have hm:=h2 es[k] (List.getElem_mem hk);refine ⟨g,_,_,_,_,rfl,by rw [h6.cell];exact hc.1,by rw [h6.cell];exact hc.2,?_⟩;rw [List.getElem?_map,he];exact WE.wd hm.1 hm.2
theorem OwnP.keptG {t:TypeId} {w w':World} {base:Nat} {v:Value} {xs:List Int} {G:Nat->Prop} (h:OwnP t w base v xs) (hk:Kept G w w') (hg:∀ k,v.ownBlock=some k->¬ G k) (hG:∀ k,G k->∃ t cs,Blk w k t cs/\NoLimb cs):OwnP t w' base v xs:=by
 obtain ⟨es,h1,h2,h3⟩:=h;refine ⟨es,?_,fun e he=>⟨hk.lim (h2 e he).1 hG,(h2 e he).2⟩,h3⟩
 rcases h1 with h | ⟨g',sp,rfl,h2,h3,h4⟩
 ·exact .inl h
 ·exact .inr ⟨g',sp,rfl,h2,h3,hk.blk h4 (hg g' (by simp [Value.ownBlock]))⟩
theorem Zs9 (A:Option Addr) (n c:Nat) (Q:List (List Rat)) (w:World) (h:MFL w A n c Q) (hn0:0 < n) (hn9:n <= 900) (hm:∀ i,i < n->(Q[i]?.getD []).length=n) (hok:okZ (pw 200) n n 0 0 (Zt Q) 1) (hfin:Zgl Q n n)
    (hby:∀ k,k <= n->byZ Q k < pw 4096) (hla:(Zed Q).natAbs < pw 4096) :
    Calls Tryz.prog 56 #[.slice A n c] w (Zff w (Rat.divInt (Zed Q) (byZ Q n))):=by
 have hmx:Tryz.prog.follows .mixedOrders=true:=by kernel_rfl
 have hne:(89:TypeId) ≠ 43:=by decide
 have hQl:=Za h.1;obtain ⟨W0,hW0,hB0,q0,s0⟩:=Zbr w 45 #[.bool false,.slice none 0 0,.bool false,.slice none 0 0];replace h:=h.below hB0;obtain ⟨FIN,hFIN⟩:∃ X,Zae n 0 0 (Zt Q) false 1=X:=⟨_,rfl⟩;obtain ⟨E',rk,ng,la⟩:=FIN;have hLZ:Hid (Zed Q=if ng then -(if rk < n then 0 else la) else if rk < n then 0 else la):=Za (by unfold Zed;rw [hQl.out,hFIN]);replace hFIN:=Za hFIN;replace hok:=Za hok;replace hla:=Za hla;replace hby:=Za hby;go_enter Tryz.func56,Tryz.ntmps56;go_wp2_with fail;refine (Zka A n c n Q W0 h hn9 hm hn0 hn9 hfin.1 hfin.2).mono ?_;rintro e w1 ⟨v,vb,L,rfl,hb1,hM,hq,hP,hdis⟩;obtain ⟨vA,vc,rfl,hbc1,hbc2,-⟩:=hP.poly_at;rw [List.length_map,List.length_range] at hbc1 hP hdis ⊢;unfold maxLen at hbc2;have hLl:=congrArg List.length hq;rw [List.length_map] at hLl;unfold Zt at hLl;rw [List.length_map,hQl.out] at hLl;obtain ⟨go,cap,rfl,hc1,hc2,hgo,hMM,hgs⟩:=hM.mat hne (fun e=>by rw [e] at hLl;simp at hLl;omega);rw [hLl] at hc1 ⊢;obtain ⟨g3,hg3⟩:∃ g,w1.heap.size=g:=⟨_,rfl⟩;obtain ⟨V,hV,hBV,qv,kW,kB,sV⟩:=Zr 91 #[.slice (some ⟨go,0,none⟩) n cap,.slice vA n vc] (Below.refl w1.heap.size w1) (Nat.le_refl _);have hMV:=hMM.below hBV;have hPV:=hP.kept hBV;have q0V:=Za ((Zc hb1 q0).below hBV (Zc hb1 q0).lt);rw [hg3] at qv;obtain ⟨x0,x1,-,-⟩:=qv.two;replace hLl:=Za hLl;replace hdis:=Za hdis;replace hP:=Za hPV;have hsz0:Hid (w.heap.size < W0.heap.size):=Za (by omega);have hBV0:Hid (Below W0.heap.size W0 V):=Za (hb1.trans (hBV.mono hb1.size))
 have hgo1:∀ k,(k=go \/ k ∈ L.map RZ.g)->W0.heap.size <= k:=fun k hk=>by
  rcases hk with rfl | hk
  ·exact hgo
  ·obtain ⟨s,hs,rfl⟩:=List.mem_map.1 hk
   exact hgs s hs
 have hlt3:∀ k,(k=go \/ k ∈ L.map RZ.g)->k < g3:=fun k hk=>by
  obtain ⟨t,cs,hb,-⟩:=hMM.boxes k hk;rw [<- hg3];exact hb.lt
 replace hgo1:=Za hgo1;replace hlt3:=Za hlt3;replace qv:=Za qv;clear hM hMM kW kB sV hPV h hW0 hgo hgs q0 hb1 hBV;go_wp2_with fail;(try rw [hg3]);(try rw [hV]);refine (Ze7 go n cap L (.slice vA n vc) n n V hMV hLl.out hn0 hn9 hc1 hc2 (Nat.le_refl _) hn9 (by rw [hq];exact hok.out)).mono ?_;rw [hq,hFIN.out];rintro e w2 ⟨L2,ln,lA,lk,lc,rfl,hwl,-,-,-,-,hK2⟩;clear hV x0 x1
 have hne3:¬ (g3=go \/ g3 ∈ L.map RZ.g):=fun h=>by have:=hlt3.out g3 h;omega
 have q3:=hK2.blk qv.out hne3;have q0w:=hK2.blk q0V.out (fun h=>by have:=hgo1.out _ h;have:=hsz0.out;omega)
 have hPw:OwnP 43 w2 W0.heap.size (.slice vA n vc) ((List.range n).map fun i=>((denAt Q i:Nat):Int)):=hP.out.keptG hK2 (fun k hk hG=>by
  rcases hG with hG | hG
  ·obtain ⟨⟨zs,hz⟩,-,-⟩:=hMV
   rw [<- hG] at hz;exact hP.out.ownType hz (Ne.symm hne) hk
  ·obtain ⟨s,hs,e⟩:=List.mem_map.1 hG
   exact hdis.out s hs (by rw [e];exact hk)) (fun k hk=>hMV.boxes k hk)
 have hB2:Below W0.heap.size W0 w2:=hBV0.out.trans (hK2.to_below hgo1.out hBV0.out.size);obtain ⟨g6,hg6⟩:∃ g,w2.heap.size=g:=⟨_,rfl⟩;obtain ⟨V2,hV2,hBV2,qv2,kW,kB,sV⟩:=Zr 43 #[.bool ln,.slice lA lk lc] (Below.refl w2.heap.size w2) (Nat.le_refl _);have hwl2:=hwl.below hBV2;rw [hg6] at qv2;have hPV2:=Za (hPw.kept hBV2);have q3V2:=Za (q3.below hBV2 q3.lt);have q0V2:=Za (q0w.below hBV2 q0w.lt);have hBV02:=Za (hB2.trans (hBV2.mono hB2.size));have hW06:Hid (W0.heap.size <= g6):=Za (by rw [<- hg6];exact hB2.size);have hg36:Hid (g3 < g6):=Za (by rw [<- hg6];exact q3.lt);have hg06:Hid (w.heap.size < g6):=Za (by rw [<- hg6];exact q0w.lt)
 have hvb6:Hid (∀ k,(Value.slice vA n vc).ownBlock=some k->k ≠ g6):=Za (fun k hk e=>by
  obtain ⟨es,h1,-,-⟩:=hPw
  rcases h1 with ⟨h9,_⟩ | ⟨g',sp,h9,_,_,h4⟩
  ·rw [h9] at hk;cases hk
  ·have h5:g'=k:=by rw [h9] at hk;simpa [Value.ownBlock] using hk
   have:=h4.lt
   omega)
 replace hwl2:=Za hwl2;clear hMV hK2 hB2 hPw q3 q0w hwl kW kB sV hne3 hP hdis hgo1 hlt3 hBV2;obtain ⟨l0,l1,lz0,lz1⟩:=qv2.two
 by_cases hr:rk < n
 case pos =>
  have t1:decide ((rk:Int) < (n:Int))=true:=decide_eq_true (by omega);have t1':decide (rk < n)=true:=decide_eq_true hr;have hLZ2:Hid (Zed Q=if ng=true then -(0:Int) else 0):=Za (by rw [hLZ.out,if_pos hr]);replace hr:=Za hr;replace qv2:=Za qv2;clear l0 l1 lz0 lz1;go_wp2_with fail;(try rw [hg6]);(try rw [hV2]);clear hV2;refine (Za5 0 V2 (by decide) (by decide)).mono ?_;rintro e w4 ⟨hb4,n4,A4,k4,c4,rfl,hN4⟩;have q64:=Zc hb4 qv2.out;obtain ⟨s0,s1,sz0,sz1⟩:=q64.two;obtain ⟨X4,hX4,hBX4,q64',st⟩:=Zav (B:=g6) n4 A4 k4 c4 (Below.refl g6 w4) (Nat.le_refl g6) q64;have hz4:Wd X4 n4 A4 k4 c4 0:=st.1 _ _ _ _ _ hN4
  have hKX4:Kept (fun k=>k=g6) V2 X4:=by
   rw [<- hX4];exact (((Kept.of_below (G:=fun k=>k=g6) hb4).set_ (p:=⟨g6,0,none⟩) (.inl rfl) _).set_ (p:=⟨g6,1,none⟩) (.inl rfl) _)
  have hg36':=hg36.out;have hg06':=hg06.out;have q3X4:=hKX4.blk q3V2.out (by omega);have q0X4:=hKX4.blk q0V2.out (by omega);have PX4:=OwnP.keptG hPV2.out hKX4 (fun k hk e=>hvb6.out k hk e) (fun k hk=>⟨_,_,(hk ▸ qv2.out:Blk V2 k 43 #[.bool ln,.slice lA lk lc]),Zbz _ _ _ _⟩);have hBX4:=hBV02.out.trans (hKX4.to_below (B:=W0.heap.size) (fun k hk=>by rw [hk];exact hW06.out) hBV02.out.size);replace q64':=Za q64';replace hz4:=Za hz4;replace q3X4:=Za q3X4;replace q0X4:=Za q0X4;replace PX4:=Za PX4;replace hBX4:=Za hBX4;clear hb4 hN4 q64 st hKX4
  cases ng with
  | false =>
   have hzf:Wd X4 n4 A4 k4 c4 (Zed Q):=by
    rw [hLZ2.out,if_neg (by decide)];exact hz4.out
   go_wp2_with fail;(try rw [hg6]);(try rw [hV2]);obtain ⟨g7,hg7⟩:∃ g,g=X4.heap.size:=⟨_,rfl⟩;refine (Za5 1 X4 (by decide) (by decide)).mono ?_;rintro e w7 ⟨hb7,d0,D0,e0,f0,rfl,hN⟩;obtain ⟨gd,hgd⟩:∃ g,w7.heap.size=g:=⟨_,rfl⟩;obtain ⟨V7,hV7,hBV7,qd,kW,kB,sV⟩:=Zr 43 #[.bool d0,.slice D0 e0 f0] hb7 hb7.size;have hN7:=kW _ _ _ _ _ hN;rw [hgd] at qd;have q67:=Za ((q64'.out).below hBV7 (q64'.out).lt);have wd7:=Za ((hzf).below hBV7);have q37:=Za ((q3X4.out).below hBV7 (q3X4.out).lt);have q07:=Za ((q0X4.out).below hBV7 (q0X4.out).lt);have P7:=Za ((PX4.out).kept hBV7)
   have hXlt:X4.heap.size <= gd:=by rw [<- hgd];exact hb7.size
   have hvb7:Hid (∀ k,(Value.slice vA n vc).ownBlock=some k->k ≠ gd):=Za (fun k hk e=>by
    obtain ⟨es,h1,-,-⟩:=(PX4.out)
    rcases h1 with ⟨h9,_⟩ | ⟨g',sp,h9,_,_,h4⟩
    ·rw [h9] at hk;cases hk
    ·have h5:g'=k:=by rw [h9] at hk;simpa [Value.ownBlock] using hk
     have:=h4.lt
     omega)
   have hne67:Hid (g6 ≠ gd/\g3 ≠ gd/\w.heap.size ≠ gd):=Za (by
    have h1:=(q64'.out).lt;have h2:=(q3X4.out).lt;have h3:=(q0X4.out).lt
    omega)
   have hB7:=Za ((hBX4.out).trans (hBV7.mono (hBX4.out).size));have hbox7:Hid (∀ k,k=gd->∃ t cs,Blk V7 k t cs/\NoLimb cs):=Za (fun k hk=>⟨_,_,(hk ▸ qd:Blk V7 k 43 #[.bool d0,.slice D0 e0 f0]),Zbz _ _ _ _⟩);obtain ⟨-,x1,-,-⟩:=q37.out.two;have hgsz:Hid (W0.heap.size <= gd):=Za (Nat.le_trans (hBX4.out).size hXlt);clear hb7 hN kW kB sV hBV7 hXlt hg7;go_wp2_with fail;(try rw [hgd]);(try rw [hV7]);replace hgd:=Za hgd;clear hV7 x1;replace hN7:=Za hN7;replace qd:=Za qd
   go_loopg [37] n (fun k iv wr=>∃ (t:Nat) (dn:Bool) (dA:Option Addr) (dk dc:Nat),t+k=n/\iv=.int .i64 t/\Blk wr gd 43 #[.bool dn,.slice dA dk dc]/\Wd wr dn dA dk dc ((byZ Q t:Nat):Int)/\Kept (fun k=>k=gd) V7 wr)
   case atStart=>exact ⟨0,d0,D0,e0,f0,by omega,rfl,qd.out,hN7.out,Kept.refl _ _⟩
   case round =>
    obtain ⟨t,dn,dA,dk,dc,htk,rfl,hbd,hwd,hKd⟩:=hrel
    cases gk with
    | zero =>
     obtain rfl:t=n:=by omega
     have t2:decide ((t:Int) < (t:Int))=false:=by simp
     have hne67':=hne67.out;have b6:=hKd.blk q67.out hne67'.1;have b0:=hKd.blk q07.out hne67'.2.2;have w6:=hKd.wd wd7.out hbox7.out;have hBr:Below W0.heap.size W0 wr:=hB7.out.trans (hKd.to_below (fun k hk=>by rw [hk];exact hgsz.out) hB7.out.size);obtain ⟨l0,l1,-,-⟩:=b6.two;obtain ⟨r0,r1,-,-⟩:=hbd.two
     have hpos:(0:Int) < ((byZ Q t:Nat):Int):=by have:=Zfz Q t;omega
     have hdn:dn=false:=by rw [hwd.1];exact decide_eq_false (by omega)
     subst hdn;replace b0:=Za b0;go_wp2_with fail;refine (Zc4 n4 A4 dA k4 c4 dk dc _ _ wr w6 hwd hpos).mono ?_;rintro e w8 ⟨hb8,xn,xA,xk,xc,xm,xB,xj,xd,rfl,hF⟩;have b08:=Zc hb8 b0.out;have hB8:=hBr.trans (hb8.mono hBr.size);obtain ⟨V9,hV9,hBV9,q9,kW,kB,s9⟩:=Zr 45 #[.bool xn,.slice xA xk xc,.bool xm,.slice xB xj xd] hB8 hB8.size;have b09:=kB _ _ _ b08;have hF9:=Fr.keep hF kW;obtain ⟨y0,y1,y2,y3,-⟩:=q9.four;obtain ⟨u0,u1,u2,u3,u4,u5,u6,u7⟩:=b09.four;have hBw9:Below w.heap.size w V9:=hB0.trans (hBV9.mono hB0.size);clear kW kB l0 l1 r0 r1;go_wp2_with fail;(try rw [hV9]);obtain ⟨W7,hW7,hB7',q3',kW,-,s7⟩:=Z3 xn xA xk xc xm xB xj xd hBw9 (Nat.le_refl _) b09;(try rw [hW7]);obtain ⟨r0,r1,r2,r3,-⟩:=q3'.four;refine bodyPost_ret (v:=.agg #[.bool xn,.slice xA xk xc,.bool xm,.slice xB xj xd]) (by simp [results,Tryz.results56,go_sem,r0,r1,r2,r3]) rfl ?_;exact ⟨hB7',_,_,_,_,_,_,_,_,rfl,kW _ _ _ _ _ hF9.1,kW _ _ _ _ _ hF9.2⟩
    | succ j =>
     obtain rfl:j=n - (t+1):=by omega
     have htn:t < n:=by omega
     have t2:decide ((t:Int) < (n:Int))=true:=decide_eq_true (by omega)
     have bt:(t:Int) < (n:Int):=by omega
     have Pr:=P7.out.keptG hKd (fun k hk e=>hvb7.out k hk e) hbox7.out;obtain ⟨bA',bc',hbe,-,-,hat⟩:=Pr.poly_at;rw [List.length_map,List.length_range] at hbe hat
     cases hbe
     obtain ⟨bb,en,eA,ek,ec,rfl,p0,p1,hwe⟩:=hat t htn
     have hex:((List.range n).map fun i=>((denAt Q i:Nat):Int))[t]?.getD 0=((denAt Q t:Nat):Int):=by rw [List.getElem?_map,List.getElem?_range htn];rfl
     rw [hex] at hwe;obtain ⟨ge,hge⟩:∃ g,wr.heap.size=g:=⟨_,rfl⟩;obtain ⟨Ve,hVe,hBe,qe,kW,kB,se⟩:=Zr 43 #[.bool en,.slice eA ek ec] (Below.refl wr.heap.size wr) (Nat.le_refl _);have hweV:=hwe.below hBe;have hwdV:=hwd.below hBe;have hbdV:=hbd.below hBe hbd.lt;rw [hge] at qe;have hKe:Hid (Kept (fun k=>k=gd) V7 Ve):=Za (hKd.below hBe);obtain ⟨y0,y1,-,-⟩:=qe.two;obtain ⟨r0,r1,rz0,rz1⟩:=hbdV.two
     have hms:Hid ((((byZ Q t:Nat):Int) * ((denAt Q t:Nat):Int)).natAbs < pw 4096):=Za (by
      rw [<- Int.natCast_mul,Int.natAbs_natCast]
      exact hby.out (t+1) (by omega))
     replace hbdV:=Za hbdV;clear hwe hwd hbd kW kB se hKd Pr hat hex hBe qe;go_wp2_with fail;(try rw [hge]);(try rw [hVe]);refine (Zc5 dn en dA eA dk dc ek ec _ _ Ve hwdV hweV hms.out).mono ?_;rintro e w8 ⟨hb8,n8,A8,k8,c8,rfl,hf8⟩;obtain ⟨Z9,hZ9,hBZ,q9,st⟩:=Zav (B:=gd) n8 A8 k8 c8 (Below.refl gd w8) (Nat.le_refl gd) (Zc hb8 hbdV.out)
     have hf9:Hid (Wd Z9 n8 A8 k8 c8 ((byZ Q (t+1):Nat):Int)):=Za (by
      have h1:=st.1 _ _ _ _ _ hf8;rw [<- Int.natCast_mul] at h1
      exact h1)
     have hK9:Hid (Kept (fun k=>k=gd) V7 Z9):=Za (by rw [<- hZ9];exact ((hKe.out.below hb8).set_ (p:=⟨gd,0,none⟩) (.inl rfl) _).set_ (p:=⟨gd,1,none⟩) (.inl rfl) _);have g0:=Zb hb8 r0;have g1:=Zb hb8 r1;have f0:=Zj hb8 r0 rz0;have f1:=Zj hb8 r1 rz1;clear hVe y0 y1 r0 r1 rz0 rz1 hb8 hf8 st hBZ hwdV hweV p0 p1;go_wp2_with fail;(try rw [hZ9])
     go_roundg (n - (t+1))
     case measure=>omega
     case rel=>exact ⟨t+1,n8,A8,k8,c8,by omega,by go_num,q9,hf9.out,hK9.out⟩
  | true =>
   have hwdN:=hz4.out;have hq6N:=q64'.out;obtain ⟨k0,k1,kz0,kz1⟩:=hq6N.two;go_wp2_with fail;(try rw [hg6]);(try rw [hV2]);refine (Zsp n4 A4 k4 c4 _ X4 hwdN).mono ?_;rintro e w5 ⟨hb5,n5,A5,k5,c5,code,rfl,hR⟩
   have hsm:(-(0:Int)).natAbs < pw 4096:=by rw [Int.natAbs_neg];exact hwdN.small
   have hN5:=hR.small hsm;have q65:=Zc hb5 hq6N;clear k0 k1 kz0 kz1;obtain ⟨s0,s1,sz0,sz1⟩:=q65.two;obtain ⟨X5,hX5,hBX5,q65',st⟩:=Zav (B:=g6) n5 A5 k5 c5 (Below.refl g6 w5) (Nat.le_refl g6) q65
   have hzf:Wd X5 n5 A5 k5 c5 (Zed Q):=by
    rw [hLZ2.out,if_pos trivial];exact st.1 _ _ _ _ _ hN5
   have hKX:Kept (fun k=>k=g6) X4 X5:=by
    rw [<- hX5];exact (((Kept.of_below (G:=fun k=>k=g6) hb5).set_ (p:=⟨g6,0,none⟩) (.inl rfl) _).set_ (p:=⟨g6,1,none⟩) (.inl rfl) _)
   have hg36':=hg36.out;have hg06':=hg06.out;have q3X:=hKX.blk (q3X4.out) (by omega);have q0X:=hKX.blk (q0X4.out) (by omega);have PX:=OwnP.keptG (PX4.out) hKX (fun k hk e=>hvb6.out k hk e) (fun k hk=>⟨_,_,(hk ▸ hq6N:Blk X4 k 43 #[.bool n4,.slice A4 k4 c4]),Zbz _ _ _ _⟩);have hBX:=(hBX4.out).trans (hKX.to_below (B:=W0.heap.size) (fun k hk=>by rw [hk];exact hW06.out) (hBX4.out).size);obtain ⟨k0,k1,-,-⟩:=q65'.two;clear hb5 hR hN5 q65 st hKX;go_wp2_with fail;(try rw [hX5]);obtain ⟨g7,hg7⟩:∃ g,g=X5.heap.size:=⟨_,rfl⟩;refine (Za5 1 X5 (by decide) (by decide)).mono ?_;rintro e w7 ⟨hb7,d0,D0,e0,f0,rfl,hN⟩;obtain ⟨gd,hgd⟩:∃ g,w7.heap.size=g:=⟨_,rfl⟩;obtain ⟨V7,hV7,hBV7,qd,kW,kB,sV⟩:=Zr 43 #[.bool d0,.slice D0 e0 f0] hb7 hb7.size;have hN7:=kW _ _ _ _ _ hN;rw [hgd] at qd;have q67:=Za ((q65').below hBV7 (q65').lt);have wd7:=Za ((hzf).below hBV7);have q37:=Za ((q3X).below hBV7 (q3X).lt);have q07:=Za ((q0X).below hBV7 (q0X).lt);have P7:=Za ((PX).kept hBV7)
   have hXlt:X5.heap.size <= gd:=by rw [<- hgd];exact hb7.size
   have hvb7:Hid (∀ k,(Value.slice vA n vc).ownBlock=some k->k ≠ gd):=Za (fun k hk e=>by
    obtain ⟨es,h1,-,-⟩:=(PX)
    rcases h1 with ⟨h9,_⟩ | ⟨g',sp,h9,_,_,h4⟩
    ·rw [h9] at hk;cases hk
    ·have h5:g'=k:=by rw [h9] at hk;simpa [Value.ownBlock] using hk
     have:=h4.lt
     omega)
   have hne67:Hid (g6 ≠ gd/\g3 ≠ gd/\w.heap.size ≠ gd):=Za (by
    have h1:=(q65').lt;have h2:=(q3X).lt;have h3:=(q0X).lt
    omega)
   have hB7:=Za ((hBX).trans (hBV7.mono (hBX).size));have hbox7:Hid (∀ k,k=gd->∃ t cs,Blk V7 k t cs/\NoLimb cs):=Za (fun k hk=>⟨_,_,(hk ▸ qd:Blk V7 k 43 #[.bool d0,.slice D0 e0 f0]),Zbz _ _ _ _⟩);obtain ⟨-,x1,-,-⟩:=q37.out.two;have hgsz:Hid (W0.heap.size <= gd):=Za (Nat.le_trans (hBX).size hXlt);clear hb7 hN kW kB sV hBV7 hXlt hg7;go_wp2_with fail;(try rw [hgd]);(try rw [hV7]);replace hgd:=Za hgd;clear hV7 x1;replace hN7:=Za hN7;replace qd:=Za qd
   go_loopg [37] n (fun k iv wr=>∃ (t:Nat) (dn:Bool) (dA:Option Addr) (dk dc:Nat),t+k=n/\iv=.int .i64 t/\Blk wr gd 43 #[.bool dn,.slice dA dk dc]/\Wd wr dn dA dk dc ((byZ Q t:Nat):Int)/\Kept (fun k=>k=gd) V7 wr)
   case atStart=>exact ⟨0,d0,D0,e0,f0,by omega,rfl,qd.out,hN7.out,Kept.refl _ _⟩
   case round =>
    obtain ⟨t,dn,dA,dk,dc,htk,rfl,hbd,hwd,hKd⟩:=hrel
    cases gk with
    | zero =>
     obtain rfl:t=n:=by omega
     have t2:decide ((t:Int) < (t:Int))=false:=by simp
     have hne67':=hne67.out;have b6:=hKd.blk q67.out hne67'.1;have b0:=hKd.blk q07.out hne67'.2.2;have w6:=hKd.wd wd7.out hbox7.out;have hBr:Below W0.heap.size W0 wr:=hB7.out.trans (hKd.to_below (fun k hk=>by rw [hk];exact hgsz.out) hB7.out.size);obtain ⟨l0,l1,-,-⟩:=b6.two;obtain ⟨r0,r1,-,-⟩:=hbd.two
     have hpos:(0:Int) < ((byZ Q t:Nat):Int):=by have:=Zfz Q t;omega
     have hdn:dn=false:=by rw [hwd.1];exact decide_eq_false (by omega)
     subst hdn;replace b0:=Za b0;go_wp2_with fail;refine (Zc4 n5 A5 dA k5 c5 dk dc _ _ wr w6 hwd hpos).mono ?_;rintro e w8 ⟨hb8,xn,xA,xk,xc,xm,xB,xj,xd,rfl,hF⟩;have b08:=Zc hb8 b0.out;have hB8:=hBr.trans (hb8.mono hBr.size);obtain ⟨V9,hV9,hBV9,q9,kW,kB,s9⟩:=Zr 45 #[.bool xn,.slice xA xk xc,.bool xm,.slice xB xj xd] hB8 hB8.size;have b09:=kB _ _ _ b08;have hF9:=Fr.keep hF kW;obtain ⟨y0,y1,y2,y3,-⟩:=q9.four;obtain ⟨u0,u1,u2,u3,u4,u5,u6,u7⟩:=b09.four;have hBw9:Below w.heap.size w V9:=hB0.trans (hBV9.mono hB0.size);clear kW kB l0 l1 r0 r1;go_wp2_with fail;(try rw [hV9]);obtain ⟨W7,hW7,hB7',q3',kW,-,s7⟩:=Z3 xn xA xk xc xm xB xj xd hBw9 (Nat.le_refl _) b09;(try rw [hW7]);obtain ⟨r0,r1,r2,r3,-⟩:=q3'.four;refine bodyPost_ret (v:=.agg #[.bool xn,.slice xA xk xc,.bool xm,.slice xB xj xd]) (by simp [results,Tryz.results56,go_sem,r0,r1,r2,r3]) rfl ?_;exact ⟨hB7',_,_,_,_,_,_,_,_,rfl,kW _ _ _ _ _ hF9.1,kW _ _ _ _ _ hF9.2⟩
    | succ j =>
     obtain rfl:j=n - (t+1):=by omega
     have htn:t < n:=by omega
     have t2:decide ((t:Int) < (n:Int))=true:=decide_eq_true (by omega)
     have bt:(t:Int) < (n:Int):=by omega
     have Pr:=P7.out.keptG hKd (fun k hk e=>hvb7.out k hk e) hbox7.out;obtain ⟨bA',bc',hbe,-,-,hat⟩:=Pr.poly_at;rw [List.length_map,List.length_range] at hbe hat
     cases hbe
     obtain ⟨bb,en,eA,ek,ec,rfl,p0,p1,hwe⟩:=hat t htn
     have hex:((List.range n).map fun i=>((denAt Q i:Nat):Int))[t]?.getD 0=((denAt Q t:Nat):Int):=by rw [List.getElem?_map,List.getElem?_range htn];rfl
     rw [hex] at hwe;obtain ⟨ge,hge⟩:∃ g,wr.heap.size=g:=⟨_,rfl⟩;obtain ⟨Ve,hVe,hBe,qe,kW,kB,se⟩:=Zr 43 #[.bool en,.slice eA ek ec] (Below.refl wr.heap.size wr) (Nat.le_refl _);have hweV:=hwe.below hBe;have hwdV:=hwd.below hBe;have hbdV:=hbd.below hBe hbd.lt;rw [hge] at qe;have hKe:Hid (Kept (fun k=>k=gd) V7 Ve):=Za (hKd.below hBe);obtain ⟨y0,y1,-,-⟩:=qe.two;obtain ⟨r0,r1,rz0,rz1⟩:=hbdV.two
     have hms:Hid ((((byZ Q t:Nat):Int) * ((denAt Q t:Nat):Int)).natAbs < pw 4096):=Za (by
      rw [<- Int.natCast_mul,Int.natAbs_natCast]
      exact hby.out (t+1) (by omega))
     replace hbdV:=Za hbdV;clear hwe hwd hbd kW kB se hKd Pr hat hex hBe qe;go_wp2_with fail;(try rw [hge]);(try rw [hVe]);refine (Zc5 dn en dA eA dk dc ek ec _ _ Ve hwdV hweV hms.out).mono ?_;rintro e w8 ⟨hb8,n8,A8,k8,c8,rfl,hf8⟩;obtain ⟨Z9,hZ9,hBZ,q9,st⟩:=Zav (B:=gd) n8 A8 k8 c8 (Below.refl gd w8) (Nat.le_refl gd) (Zc hb8 hbdV.out)
     have hf9:Hid (Wd Z9 n8 A8 k8 c8 ((byZ Q (t+1):Nat):Int)):=Za (by
      have h1:=st.1 _ _ _ _ _ hf8;rw [<- Int.natCast_mul] at h1
      exact h1)
     have hK9:Hid (Kept (fun k=>k=gd) V7 Z9):=Za (by rw [<- hZ9];exact ((hKe.out.below hb8).set_ (p:=⟨gd,0,none⟩) (.inl rfl) _).set_ (p:=⟨gd,1,none⟩) (.inl rfl) _);have g0:=Zb hb8 r0;have g1:=Zb hb8 r1;have f0:=Zj hb8 r0 rz0;have f1:=Zj hb8 r1 rz1;clear hVe y0 y1 r0 r1 rz0 rz1 hb8 hf8 st hBZ hwdV hweV p0 p1;go_wp2_with fail;(try rw [hZ9])
     go_roundg (n - (t+1))
     case measure=>omega
     case rel=>exact ⟨t+1,n8,A8,k8,c8,by omega,by go_num,q9,hf9.out,hK9.out⟩
 have t1:decide ((rk:Int) < (n:Int))=false:=decide_eq_false (by omega);have t1':decide (rk < n)=false:=decide_eq_false hr;have hLZ2:Hid (Zed Q=if ng=true then -la else la):=Za (by rw [hLZ.out,if_neg hr]);replace hr:=Za hr;replace qv2:=Za qv2;clear l0 l1 lz0 lz1
 cases ng with
 | false =>
  have hzf:Wd V2 ln lA lk lc (Zed Q):=by
   rw [hLZ2.out,if_neg (by decide)];exact hwl2.out
  go_wp2_with fail;(try rw [hg6]);(try rw [hV2]);obtain ⟨g7,hg7⟩:∃ g,g=V2.heap.size:=⟨_,rfl⟩;refine (Za5 1 V2 (by decide) (by decide)).mono ?_;rintro e w7 ⟨hb7,d0,D0,e0,f0,rfl,hN⟩;obtain ⟨gd,hgd⟩:∃ g,w7.heap.size=g:=⟨_,rfl⟩;obtain ⟨V7,hV7,hBV7,qd,kW,kB,sV⟩:=Zr 43 #[.bool d0,.slice D0 e0 f0] hb7 hb7.size;have hN7:=kW _ _ _ _ _ hN;rw [hgd] at qd;have q67:=Za ((qv2.out).below hBV7 (qv2.out).lt);have wd7:=Za ((hzf).below hBV7);have q37:=Za ((q3V2.out).below hBV7 (q3V2.out).lt);have q07:=Za ((q0V2.out).below hBV7 (q0V2.out).lt);have P7:=Za ((hPV2.out).kept hBV7)
  have hXlt:V2.heap.size <= gd:=by rw [<- hgd];exact hb7.size
  have hvb7:Hid (∀ k,(Value.slice vA n vc).ownBlock=some k->k ≠ gd):=Za (fun k hk e=>by
   obtain ⟨es,h1,-,-⟩:=(hPV2.out)
   rcases h1 with ⟨h9,_⟩ | ⟨g',sp,h9,_,_,h4⟩
   ·rw [h9] at hk;cases hk
   ·have h5:g'=k:=by rw [h9] at hk;simpa [Value.ownBlock] using hk
    have:=h4.lt
    omega)
  have hne67:Hid (g6 ≠ gd/\g3 ≠ gd/\w.heap.size ≠ gd):=Za (by
   have h1:=(qv2.out).lt;have h2:=(q3V2.out).lt;have h3:=(q0V2.out).lt
   omega)
  have hB7:=Za ((hBV02.out).trans (hBV7.mono (hBV02.out).size));have hbox7:Hid (∀ k,k=gd->∃ t cs,Blk V7 k t cs/\NoLimb cs):=Za (fun k hk=>⟨_,_,(hk ▸ qd:Blk V7 k 43 #[.bool d0,.slice D0 e0 f0]),Zbz _ _ _ _⟩);obtain ⟨-,x1,-,-⟩:=q37.out.two;have hgsz:Hid (W0.heap.size <= gd):=Za (Nat.le_trans (hBV02.out).size hXlt);clear hb7 hN kW kB sV hBV7 hXlt hg7;go_wp2_with fail;(try rw [hgd]);(try rw [hV7]);replace hgd:=Za hgd;clear hV7 x1;replace hN7:=Za hN7;replace qd:=Za qd
  go_loopg [37] n (fun k iv wr=>∃ (t:Nat) (dn:Bool) (dA:Option Addr) (dk dc:Nat),t+k=n/\iv=.int .i64 t/\Blk wr gd 43 #[.bool dn,.slice dA dk dc]/\Wd wr dn dA dk dc ((byZ Q t:Nat):Int)/\Kept (fun k=>k=gd) V7 wr)
  case atStart=>exact ⟨0,d0,D0,e0,f0,by omega,rfl,qd.out,hN7.out,Kept.refl _ _⟩
  case round =>
   obtain ⟨t,dn,dA,dk,dc,htk,rfl,hbd,hwd,hKd⟩:=hrel
   cases gk with
   | zero =>
    obtain rfl:t=n:=by omega
    have t2:decide ((t:Int) < (t:Int))=false:=by simp
    have hne67':=hne67.out;have b6:=hKd.blk q67.out hne67'.1;have b0:=hKd.blk q07.out hne67'.2.2;have w6:=hKd.wd wd7.out hbox7.out;have hBr:Below W0.heap.size W0 wr:=hB7.out.trans (hKd.to_below (fun k hk=>by rw [hk];exact hgsz.out) hB7.out.size);obtain ⟨l0,l1,-,-⟩:=b6.two;obtain ⟨r0,r1,-,-⟩:=hbd.two
    have hpos:(0:Int) < ((byZ Q t:Nat):Int):=by have:=Zfz Q t;omega
    have hdn:dn=false:=by rw [hwd.1];exact decide_eq_false (by omega)
    subst hdn;replace b0:=Za b0;go_wp2_with fail;refine (Zc4 ln lA dA lk lc dk dc _ _ wr w6 hwd hpos).mono ?_;rintro e w8 ⟨hb8,xn,xA,xk,xc,xm,xB,xj,xd,rfl,hF⟩;have b08:=Zc hb8 b0.out;have hB8:=hBr.trans (hb8.mono hBr.size);obtain ⟨V9,hV9,hBV9,q9,kW,kB,s9⟩:=Zr 45 #[.bool xn,.slice xA xk xc,.bool xm,.slice xB xj xd] hB8 hB8.size;have b09:=kB _ _ _ b08;have hF9:=Fr.keep hF kW;obtain ⟨y0,y1,y2,y3,-⟩:=q9.four;obtain ⟨u0,u1,u2,u3,u4,u5,u6,u7⟩:=b09.four;have hBw9:Below w.heap.size w V9:=hB0.trans (hBV9.mono hB0.size);clear kW kB l0 l1 r0 r1;go_wp2_with fail;(try rw [hV9]);obtain ⟨W7,hW7,hB7',q3',kW,-,s7⟩:=Z3 xn xA xk xc xm xB xj xd hBw9 (Nat.le_refl _) b09;(try rw [hW7]);obtain ⟨r0,r1,r2,r3,-⟩:=q3'.four;refine bodyPost_ret (v:=.agg #[.bool xn,.slice xA xk xc,.bool xm,.slice xB xj xd]) (by simp [results,Tryz.results56,go_sem,r0,r1,r2,r3]) rfl ?_;exact ⟨hB7',_,_,_,_,_,_,_,_,rfl,kW _ _ _ _ _ hF9.1,kW _ _ _ _ _ hF9.2⟩
   | succ j =>
    obtain rfl:j=n - (t+1):=by omega
    have htn:t < n:=by omega
    have t2:decide ((t:Int) < (n:Int))=true:=decide_eq_true (by omega)
    have bt:(t:Int) < (n:Int):=by omega
    have Pr:=P7.out.keptG hKd (fun k hk e=>hvb7.out k hk e) hbox7.out;obtain ⟨bA',bc',hbe,-,-,hat⟩:=Pr.poly_at;rw [List.length_map,List.length_range] at hbe hat
    cases hbe
    obtain ⟨bb,en,eA,ek,ec,rfl,p0,p1,hwe⟩:=hat t htn
    have hex:((List.range n).map fun i=>((denAt Q i:Nat):Int))[t]?.getD 0=((denAt Q t:Nat):Int):=by rw [List.getElem?_map,List.getElem?_range htn];rfl
    rw [hex] at hwe;obtain ⟨ge,hge⟩:∃ g,wr.heap.size=g:=⟨_,rfl⟩;obtain ⟨Ve,hVe,hBe,qe,kW,kB,se⟩:=Zr 43 #[.bool en,.slice eA ek ec] (Below.refl wr.heap.size wr) (Nat.le_refl _);have hweV:=hwe.below hBe;have hwdV:=hwd.below hBe;have hbdV:=hbd.below hBe hbd.lt;rw [hge] at qe;have hKe:Hid (Kept (fun k=>k=gd) V7 Ve):=Za (hKd.below hBe);obtain ⟨y0,y1,-,-⟩:=qe.two;obtain ⟨r0,r1,rz0,rz1⟩:=hbdV.two
    have hms:Hid ((((byZ Q t:Nat):Int) * ((denAt Q t:Nat):Int)).natAbs < pw 4096):=Za (by
     rw [<- Int.natCast_mul,Int.natAbs_natCast]
     exact hby.out (t+1) (by omega))
    replace hbdV:=Za hbdV;clear hwe hwd hbd kW kB se hKd Pr hat hex hBe qe;go_wp2_with fail;(try rw [hge]);(try rw [hVe]);refine (Zc5 dn en dA eA dk dc ek ec _ _ Ve hwdV hweV hms.out).mono ?_;rintro e w8 ⟨hb8,n8,A8,k8,c8,rfl,hf8⟩;obtain ⟨Z9,hZ9,hBZ,q9,st⟩:=Zav (B:=gd) n8 A8 k8 c8 (Below.refl gd w8) (Nat.le_refl gd) (Zc hb8 hbdV.out)
    have hf9:Hid (Wd Z9 n8 A8 k8 c8 ((byZ Q (t+1):Nat):Int)):=Za (by
     have h1:=st.1 _ _ _ _ _ hf8;rw [<- Int.natCast_mul] at h1
     exact h1)
    have hK9:Hid (Kept (fun k=>k=gd) V7 Z9):=Za (by rw [<- hZ9];exact ((hKe.out.below hb8).set_ (p:=⟨gd,0,none⟩) (.inl rfl) _).set_ (p:=⟨gd,1,none⟩) (.inl rfl) _);have g0:=Zb hb8 r0;have g1:=Zb hb8 r1;have f0:=Zj hb8 r0 rz0;have f1:=Zj hb8 r1 rz1;clear hVe y0 y1 r0 r1 rz0 rz1 hb8 hf8 st hBZ hwdV hweV p0 p1;go_wp2_with fail;(try rw [hZ9])
    go_roundg (n - (t+1))
    case measure=>omega
    case rel=>exact ⟨t+1,n8,A8,k8,c8,by omega,by go_num,q9,hf9.out,hK9.out⟩
 | true =>
  have hwdN:=hwl2.out;have hq6N:=qv2.out;obtain ⟨k0,k1,kz0,kz1⟩:=hq6N.two;go_wp2_with fail;(try rw [hg6]);(try rw [hV2]);refine (Zsp ln lA lk lc _ V2 hwdN).mono ?_;rintro e w5 ⟨hb5,n5,A5,k5,c5,code,rfl,hR⟩
  have hsm:(-(la:Int)).natAbs < pw 4096:=by rw [Int.natAbs_neg];exact hwdN.small
  have hN5:=hR.small hsm;have q65:=Zc hb5 hq6N;clear k0 k1 kz0 kz1;obtain ⟨s0,s1,sz0,sz1⟩:=q65.two;obtain ⟨X5,hX5,hBX5,q65',st⟩:=Zav (B:=g6) n5 A5 k5 c5 (Below.refl g6 w5) (Nat.le_refl g6) q65
  have hzf:Wd X5 n5 A5 k5 c5 (Zed Q):=by
   rw [hLZ2.out,if_pos trivial];exact st.1 _ _ _ _ _ hN5
  have hKX:Kept (fun k=>k=g6) V2 X5:=by
   rw [<- hX5];exact (((Kept.of_below (G:=fun k=>k=g6) hb5).set_ (p:=⟨g6,0,none⟩) (.inl rfl) _).set_ (p:=⟨g6,1,none⟩) (.inl rfl) _)
  have hg36':=hg36.out;have hg06':=hg06.out;have q3X:=hKX.blk (q3V2.out) (by omega);have q0X:=hKX.blk (q0V2.out) (by omega);have PX:=OwnP.keptG (hPV2.out) hKX (fun k hk e=>hvb6.out k hk e) (fun k hk=>⟨_,_,(hk ▸ hq6N:Blk V2 k 43 #[.bool ln,.slice lA lk lc]),Zbz _ _ _ _⟩);have hBX:=(hBV02.out).trans (hKX.to_below (B:=W0.heap.size) (fun k hk=>by rw [hk];exact hW06.out) (hBV02.out).size);obtain ⟨k0,k1,-,-⟩:=q65'.two;clear hb5 hR hN5 q65 st hKX;go_wp2_with fail;(try rw [hX5]);obtain ⟨g7,hg7⟩:∃ g,g=X5.heap.size:=⟨_,rfl⟩;refine (Za5 1 X5 (by decide) (by decide)).mono ?_;rintro e w7 ⟨hb7,d0,D0,e0,f0,rfl,hN⟩;obtain ⟨gd,hgd⟩:∃ g,w7.heap.size=g:=⟨_,rfl⟩;obtain ⟨V7,hV7,hBV7,qd,kW,kB,sV⟩:=Zr 43 #[.bool d0,.slice D0 e0 f0] hb7 hb7.size;have hN7:=kW _ _ _ _ _ hN;rw [hgd] at qd;have q67:=Za ((q65').below hBV7 (q65').lt);have wd7:=Za ((hzf).below hBV7);have q37:=Za ((q3X).below hBV7 (q3X).lt);have q07:=Za ((q0X).below hBV7 (q0X).lt);have P7:=Za ((PX).kept hBV7)
  have hXlt:X5.heap.size <= gd:=by rw [<- hgd];exact hb7.size
  have hvb7:Hid (∀ k,(Value.slice vA n vc).ownBlock=some k->k ≠ gd):=Za (fun k hk e=>by
   obtain ⟨es,h1,-,-⟩:=(PX)
   rcases h1 with ⟨h9,_⟩ | ⟨g',sp,h9,_,_,h4⟩
   ·rw [h9] at hk;cases hk
   ·have h5:g'=k:=by rw [h9] at hk;simpa [Value.ownBlock] using hk
    have:=h4.lt
    omega)
  have hne67:Hid (g6 ≠ gd/\g3 ≠ gd/\w.heap.size ≠ gd):=Za (by
   have h1:=(q65').lt;have h2:=(q3X).lt;have h3:=(q0X).lt
   omega)
  have hB7:=Za ((hBX).trans (hBV7.mono (hBX).size));have hbox7:Hid (∀ k,k=gd->∃ t cs,Blk V7 k t cs/\NoLimb cs):=Za (fun k hk=>⟨_,_,(hk ▸ qd:Blk V7 k 43 #[.bool d0,.slice D0 e0 f0]),Zbz _ _ _ _⟩);obtain ⟨-,x1,-,-⟩:=q37.out.two;have hgsz:Hid (W0.heap.size <= gd):=Za (Nat.le_trans (hBX).size hXlt);clear hb7 hN kW kB sV hBV7 hXlt hg7;go_wp2_with fail;(try rw [hgd]);(try rw [hV7]);replace hgd:=Za hgd;clear hV7 x1;replace hN7:=Za hN7;replace qd:=Za qd
  go_loopg [37] n (fun k iv wr=>∃ (t:Nat) (dn:Bool) (dA:Option Addr) (dk dc:Nat),t+k=n/\iv=.int .i64 t/\Blk wr gd 43 #[.bool dn,.slice dA dk dc]/\Wd wr dn dA dk dc ((byZ Q t:Nat):Int)/\Kept (fun k=>k=gd) V7 wr)
  case atStart=>exact ⟨0,d0,D0,e0,f0,by omega,rfl,qd.out,hN7.out,Kept.refl _ _⟩
  case round =>
   obtain ⟨t,dn,dA,dk,dc,htk,rfl,hbd,hwd,hKd⟩:=hrel
   cases gk with
   | zero =>
    obtain rfl:t=n:=by omega
    have t2:decide ((t:Int) < (t:Int))=false:=by simp
    have hne67':=hne67.out;have b6:=hKd.blk q67.out hne67'.1;have b0:=hKd.blk q07.out hne67'.2.2;have w6:=hKd.wd wd7.out hbox7.out;have hBr:Below W0.heap.size W0 wr:=hB7.out.trans (hKd.to_below (fun k hk=>by rw [hk];exact hgsz.out) hB7.out.size);obtain ⟨l0,l1,-,-⟩:=b6.two;obtain ⟨r0,r1,-,-⟩:=hbd.two
    have hpos:(0:Int) < ((byZ Q t:Nat):Int):=by have:=Zfz Q t;omega
    have hdn:dn=false:=by rw [hwd.1];exact decide_eq_false (by omega)
    subst hdn;replace b0:=Za b0;go_wp2_with fail;refine (Zc4 n5 A5 dA k5 c5 dk dc _ _ wr w6 hwd hpos).mono ?_;rintro e w8 ⟨hb8,xn,xA,xk,xc,xm,xB,xj,xd,rfl,hF⟩;have b08:=Zc hb8 b0.out;have hB8:=hBr.trans (hb8.mono hBr.size);obtain ⟨V9,hV9,hBV9,q9,kW,kB,s9⟩:=Zr 45 #[.bool xn,.slice xA xk xc,.bool xm,.slice xB xj xd] hB8 hB8.size;have b09:=kB _ _ _ b08;have hF9:=Fr.keep hF kW;obtain ⟨y0,y1,y2,y3,-⟩:=q9.four;obtain ⟨u0,u1,u2,u3,u4,u5,u6,u7⟩:=b09.four;have hBw9:Below w.heap.size w V9:=hB0.trans (hBV9.mono hB0.size);clear kW kB l0 l1 r0 r1;go_wp2_with fail;(try rw [hV9]);obtain ⟨W7,hW7,hB7',q3',kW,-,s7⟩:=Z3 xn xA xk xc xm xB xj xd hBw9 (Nat.le_refl _) b09;(try rw [hW7]);obtain ⟨r0,r1,r2,r3,-⟩:=q3'.four;refine bodyPost_ret (v:=.agg #[.bool xn,.slice xA xk xc,.bool xm,.slice xB xj xd]) (by simp [results,Tryz.results56,go_sem,r0,r1,r2,r3]) rfl ?_;exact ⟨hB7',_,_,_,_,_,_,_,_,rfl,kW _ _ _ _ _ hF9.1,kW _ _ _ _ _ hF9.2⟩
   | succ j =>
    obtain rfl:j=n - (t+1):=by omega
    have htn:t < n:=by omega
    have t2:decide ((t:Int) < (n:Int))=true:=decide_eq_true (by omega)
    have bt:(t:Int) < (n:Int):=by omega
    have Pr:=P7.out.keptG hKd (fun k hk e=>hvb7.out k hk e) hbox7.out;obtain ⟨bA',bc',hbe,-,-,hat⟩:=Pr.poly_at;rw [List.length_map,List.length_range] at hbe hat
    cases hbe
    obtain ⟨bb,en,eA,ek,ec,rfl,p0,p1,hwe⟩:=hat t htn
    have hex:((List.range n).map fun i=>((denAt Q i:Nat):Int))[t]?.getD 0=((denAt Q t:Nat):Int):=by rw [List.getElem?_map,List.getElem?_range htn];rfl
    rw [hex] at hwe;obtain ⟨ge,hge⟩:∃ g,wr.heap.size=g:=⟨_,rfl⟩;obtain ⟨Ve,hVe,hBe,qe,kW,kB,se⟩:=Zr 43 #[.bool en,.slice eA ek ec] (Below.refl wr.heap.size wr) (Nat.le_refl _);have hweV:=hwe.below hBe;have hwdV:=hwd.below hBe;have hbdV:=hbd.below hBe hbd.lt;rw [hge] at qe;have hKe:Hid (Kept (fun k=>k=gd) V7 Ve):=Za (hKd.below hBe);obtain ⟨y0,y1,-,-⟩:=qe.two;obtain ⟨r0,r1,rz0,rz1⟩:=hbdV.two
    have hms:Hid ((((byZ Q t:Nat):Int) * ((denAt Q t:Nat):Int)).natAbs < pw 4096):=Za (by
     rw [<- Int.natCast_mul,Int.natAbs_natCast]
     exact hby.out (t+1) (by omega))
    replace hbdV:=Za hbdV;clear hwe hwd hbd kW kB se hKd Pr hat hex hBe qe;go_wp2_with fail;(try rw [hge]);(try rw [hVe]);refine (Zc5 dn en dA eA dk dc ek ec _ _ Ve hwdV hweV hms.out).mono ?_;rintro e w8 ⟨hb8,n8,A8,k8,c8,rfl,hf8⟩;obtain ⟨Z9,hZ9,hBZ,q9,st⟩:=Zav (B:=gd) n8 A8 k8 c8 (Below.refl gd w8) (Nat.le_refl gd) (Zc hb8 hbdV.out)
    have hf9:Hid (Wd Z9 n8 A8 k8 c8 ((byZ Q (t+1):Nat):Int)):=Za (by
     have h1:=st.1 _ _ _ _ _ hf8;rw [<- Int.natCast_mul] at h1
     exact h1)
    have hK9:Hid (Kept (fun k=>k=gd) V7 Z9):=Za (by rw [<- hZ9];exact ((hKe.out.below hb8).set_ (p:=⟨gd,0,none⟩) (.inl rfl) _).set_ (p:=⟨gd,1,none⟩) (.inl rfl) _);have g0:=Zb hb8 r0;have g1:=Zb hb8 r1;have f0:=Zj hb8 r0 rz0;have f1:=Zj hb8 r1 rz1;clear hVe y0 y1 r0 r1 rz0 rz1 hb8 hf8 st hBZ hwdV hweV p0 p1;go_wp2_with fail;(try rw [hZ9])
    go_roundg (n - (t+1))
    case measure=>omega
    case rel=>exact ⟨t+1,n8,A8,k8,c8,by omega,by go_num,q9,hf9.out,hK9.out⟩
end Go.Proofs.YtigdclhagmnopaaGreat
