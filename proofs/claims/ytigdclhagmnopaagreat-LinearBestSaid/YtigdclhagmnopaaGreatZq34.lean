/- Package linear: back. -/
import Derived.Test.YtigdclhagmnopaaGreatZq32
set_option maxRecDepth 100000
set_option maxHeartbeats 8000000
set_option linter.unusedSimpArgs false
set_option linter.unusedVariables false
namespace Go.Proofs.YtigdclhagmnopaaGreat
open Go.RowKit Go.Shelf
attribute [local go_sem] Zh
attribute [local go_sem] Oper.semAt_some
theorem Zim (z:Int):Rat.divInt z 1=(z:Rat):=by
 have h:=Rat.num_divInt_den ((z:Int):Rat);rw [Rat.num_intCast,Rat.den_intCast] at h;exact h
def Zbd (B0:Nat) (q:Rat) (fr ca mv x0 x1 al as_:Nat) (i:Nat) (v:Value) (w:World):Prop:=
 if i=fr then ∃ A n c,v=.agg #[.bool false,.slice A n c]/\Wd w false A n c 1 else Zaa B0 q ca mv x0 x1 al as_ i v w
theorem Zg5 {B0:Nat} {q:Rat} {fr ca mv x0 x1 al as_ i:Nat} {v:Value} {w w':World} (hb:Below w.heap.size w w') (h:Zbd B0 q fr ca mv x0 x1 al as_ i v w):Zbd B0 q fr ca mv x0 x1 al as_ i v w':=by
 unfold Zbd at h ⊢
 split at h
 ·rename_i h1;rw [if_pos h1]
  obtain ⟨A,n,c,e,hf⟩:=h;exact ⟨A,n,c,e,hf.below hb⟩
 ·rename_i h1;rw [if_neg h1]
  exact Ze0 hb h
theorem Zjs {C m:Nat}:∀ (f c r:Nat) (Z:List (List Int)) (ng:Bool) (last:Int),okZ C m f c r Z last->BdZ C m (Zae f c r Z ng last).1
 | 0,_,_,_,_,_,h=>h.1
 | f+1,c,r,Z,ng,last,h=>by
  by_cases h0:r=Z.length
  ·rw [Zl8 h0];exact (Zvp h).1
  ·obtain ⟨q,hq⟩:∃ q,Zbe (fun i=>Zaf Z i c == 0) Z.length Z.length r=q:=⟨_,rfl⟩
   by_cases hn:q=Z.length
   ·rw [Zld h0 hq hn];exact Zjs f _ _ _ _ _ (Zqk h h0 hq hn)
   ·rw [Zln h0 hq hn];exact Zjs f _ _ _ _ _ (Zqg h h0 hq hn)
theorem Ztq {X:Nat->Nat->Rat} {n m k:Nat} (h:k < n):(Ziw X n m).drop (n - (k+1))=((List.range (m - n)).map fun c=>X (n - 1 - k) (n+c)) :: (Ziw X n m).drop (n - k):=by
 unfold Ziw
 have hl:n - (k+1) < ((List.range n).map fun i=>(List.range (m - n)).map fun c=>X i (n+c)).length:=by rw [List.length_map,List.length_range];omega
 rw [List.drop_eq_getElem_cons hl,show n - (k+1)+1=n - k by omega]
 congr 1
 rw [List.getElem_map,List.getElem_range,show n - (k+1)=n - 1 - k by omega]
theorem Zvw {X:Nat->Nat->Rat} {n m j t:Nat} (hj:j < n) (ht:t < m - n) {L:List RF} {i:Nat} (hL:L.map RF.q=(Ziw X n m).drop (i+1)) (hij:i < j) {y:RF} (hy:L[j - (i+1)]?=some y):y.q.length=m - n/\y.q[t]?.getD 0=X j (n+t):=by
 have h1:(L.map RF.q)[j - (i+1)]?=some y.q:=by rw [List.getElem?_map,hy];rfl
 rw [hL,List.getElem?_drop,show i+1+(j - (i+1))=j by omega] at h1;unfold Ziw at h1;rw [List.getElem?_map,List.getElem?_range hj] at h1;simp only [Option.map_some,Option.some.injEq] at h1;rw [<- h1];refine ⟨by simp,?_⟩;rw [List.getElem?_map,List.getElem?_range ht];rfl
theorem Zpg (A:Option Addr) (n c m:Nat) (Q:List (List Rat)) (w:World) (h:MFL w A n c Q) (hn0:0 < n) (hn9:n <= 900) (hnm:n < m) (hm9:m <= 900) (hm:∀ i,i < n->(Q[i]?.getD []).length=m) (hok:okZ (pw 200) m n 0 0 (Zt Q) 1) (hfin:Zgl Q n m) (hrk:(Zae n 0 0 (Zt Q) false 1).2.1=n)
    (X:Nat->Nat->Rat) (hX:Zfc (fun i j=>(Zaf (Zae n 0 0 (Zt Q) false 1).1 i j:Rat)) X n m) :
    Calls Tryz.prog 63 #[.slice A n c,.int .i64 n] w fun e w'=>∃ gO L,e=.returned (.tuple #[.slice (some ⟨gO,0,none⟩) n n,.bool true])/\Below w.heap.size w w'/\w.heap.size <= gO/\MatB 40 45 w' gO L/\L.map RF.q=Ziw X n m/\∀ r ∈ L,w.heap.size <= r.g:=by
 have hmx:Tryz.prog.follows .mixedOrders=true:=by kernel_rfl
 have hne:(89:TypeId) ≠ 43:=by decide
 have hts:(40:TypeId) ≠ 45:=by decide
 have ntF:Hid (NoT 3 22 88 89 43 45):=Za (by unfold NoT;decide);have ntS:Hid (NoT 3 22 88 89 43 40):=Za (by unfold NoT;decide);obtain ⟨iF,hi,hz0,hz1,hz2⟩:=info_parts Ze2;obtain ⟨iS,ki,kz0,kz1,kz2⟩:=info_parts Zjm;have hQl:=Za h.1;obtain ⟨W0,hW0,hB0,q0,s0⟩:=Zbr w 3 #[.int .i64 n];replace h:=h.below hB0;obtain ⟨FIN,hFIN⟩:∃ X,Zae n 0 0 (Zt Q) false 1=X:=⟨_,rfl⟩;rw [hFIN] at hrk hX;obtain ⟨E',rk,ng,la⟩:=FIN;have hrk':rk=n:=hrk;subst hrk';replace hX:Zfc (fun i j=>(Zaf E' i j:Rat)) X rk m:=hX;obtain ⟨n,hn⟩:∃ n,n=rk:=⟨_,rfl⟩;subst hn;replace hFIN:=Za hFIN;replace hok:=Za hok;replace hX:=Za hX;refine (callsIn_wide (n:=9)).1 ?_;refine callsIn_of_wp_marks Tryz.func63 rfl trivial ?_ rfl;simp only [Tryz.ntmps63,List.size_toArray,List.length_cons,List.length_nil,Nat.reduceAdd,Nat.reduceSub,Array.replicate_succ,Array.replicate_zero,List.push_toArray,List.append_toArray,List.nil_append,List.cons_append];refine wpIn_wide.2 ?_;go_wp2_with fail;refine (Zka A n c m Q W0 h hn9 hm (by omega) hm9 hfin.1 hfin.2).mono ?_;rintro e w1 ⟨v,vb,L,rfl,hb1,hM,hq,hP,hdis⟩;obtain ⟨vA,vc,rfl,hbc1,hbc2,-⟩:=hP.poly_at;rw [List.length_map,List.length_range] at hbc1 hP hdis ⊢;unfold maxLen at hbc2;have hLl:=congrArg List.length hq;rw [List.length_map] at hLl;unfold Zt at hLl;rw [List.length_map,hQl.out] at hLl;obtain ⟨go,cap,rfl,hc1,hc2,hgo,hMM,hgs⟩:=hM.mat hne (fun e=>by rw [e] at hLl;simp at hLl;omega);rw [hLl] at hc1 ⊢;obtain ⟨g3,hg3⟩:∃ g,w1.heap.size=g:=⟨_,rfl⟩
 obtain ⟨V,hV,hBV,qv,kW,kB,sV⟩:=Zr 91 #[.slice (some ⟨go,0,none⟩) n cap,.slice vA n vc] (Below.refl w1.heap.size w1) (Nat.le_refl _);have hMV:=hMM.below hBV;have q0V:=(Zc hb1 q0).below hBV (Zc hb1 q0).lt;rw [hg3] at qv;obtain ⟨x0,x1,-,-⟩:=qv.two;have nV:=q0V.cell 0
 simp at nV
 replace hLl:=Za hLl;have hsz0:Hid (w.heap.size < W0.heap.size):=Za (by omega);have hBV0:Hid (Below W0.heap.size W0 V):=Za (hb1.trans (hBV.mono hb1.size))
 have hgo1:∀ k,(k=go \/ k ∈ L.map RZ.g)->W0.heap.size <= k:=fun k hk=>by
  rcases hk with rfl | hk
  ·exact hgo
  ·obtain ⟨s,hs,rfl⟩:=List.mem_map.1 hk
   exact hgs s hs
 have hlt3:∀ k,(k=go \/ k ∈ L.map RZ.g)->k < g3:=fun k hk=>by
  obtain ⟨t,cs,hb,-⟩:=hMM.boxes k hk;rw [<- hg3];exact hb.lt
 replace hgo1:=Za hgo1;replace hlt3:=Za hlt3;replace qv:=Za qv;replace q0V:=Za q0V;clear hM hMM kW kB sV hdis hP h hW0 hgo hgs q0 hb1 hBV;go_wp2_with fail;(try rw [hg3]);(try rw [hV]);refine (Ze7 go n cap L (.slice vA n vc) m n V hMV hLl.out hn0 hn9 hc1 hc2 (by omega) hm9 (by rw [hq];exact hok.out)).mono ?_;rw [hq,hFIN.out];rintro e w2 ⟨L2,ln,lA,lk,lc,rfl,hwl,hL2l,-,hL2q,hM2,hK2⟩;replace hL2q:L2.map RZ.q=E':=hL2q;clear hV x0 x1 nV
 have hne3:¬ (g3=go \/ g3 ∈ L.map RZ.g):=fun h=>by have:=hlt3.out g3 h;omega
 have q3:=hK2.blk qv.out hne3;have q0w:=hK2.blk q0V.out (fun h=>by have:=hgo1.out _ h;have:=hsz0.out;omega);have hB2:Below W0.heap.size W0 w2:=hBV0.out.trans (hK2.to_below hgo1.out hBV0.out.size);obtain ⟨g6,hg6⟩:∃ g,w2.heap.size=g:=⟨_,rfl⟩;obtain ⟨V2,hV2,hBV2,qv2,kW,kB,sV⟩:=Zr 43 #[.bool ln,.slice lA lk lc] (Below.refl w2.heap.size w2) (Nat.le_refl _);have q3V2:=q3.below hBV2 q3.lt;have q0V2:=q0w.below hBV2 q0w.lt;have hM2V:=hM2.below hBV2;have hBV02:=Za (hB2.trans (hBV2.mono hB2.size));obtain ⟨y0,y1,-,-⟩:=q3V2.two;have nV2:=q0V2.cell 0
 simp at nV2
 have t1:decide ((n:Int) < (n:Int))=false:=by simp
 obtain ⟨gO,hgO⟩:∃ g,V2.heap.size=g:=⟨_,rfl⟩;obtain ⟨V3,hV3⟩:∃ Y,V2.alloc (.cells (Z7 (List.replicate n Zay)) 40)=Y:=⟨_,rfl⟩
 have hb3:Below V2.heap.size V2 V3:=by rw [<- hV3];exact (Below.refl _ _).alloc (Nat.le_refl _) _
 have qO3:Blk V3 gO 40 (Z7 (List.replicate n Zay)):=by rw [<- hV3,<- hgO];exact Blk.new _ _ _
 obtain ⟨gX,hgX⟩:∃ g,V3.heap.size=g:=⟨_,rfl⟩;obtain ⟨V4,hV4,hb4,qX4,-,-,s4⟩:=Zr 22 #[.slice (some ⟨gO,0,none⟩) n n] (Below.refl V3.heap.size V3) (Nat.le_refl _);rw [hgX] at qX4;have hmk:=Zot (P:=Tryz.prog) 22 40 Tryz.underlying22 ki kz0 kz1 kz2 (n:Int) n rfl (by omega) V2;rw [hV3,hgO] at hmk;have q3V4:=(q3V2.below hb3 q3V2.lt).below hb4 (q3V2.below hb3 q3V2.lt).lt;have q0V4:=(q0V2.below hb3 q0V2.lt).below hb4 (q0V2.below hb3 q0V2.lt).lt;have hMV4:=(hM2V.below hb3).below hb4;have qO4:=qO3.below hb4 qO3.lt;obtain ⟨z0,z1,-,-⟩:=q3V4.two;have nV4:=q0V4.cell 0
 simp at nV4
 have bc:(n:Int) <= (cap:Int):=by omega
 obtain ⟨gB,hgB⟩:∃ g,V4.heap.size=g:=⟨_,rfl⟩;obtain ⟨V5,hV5⟩:∃ Y,V4.alloc (.cells #[.slice (some ⟨go,0,none⟩) n cap] 88)=Y:=⟨_,rfl⟩
 have hb5:Below V4.heap.size V4 V5:=by rw [<- hV5];exact (Below.refl _ _).alloc (Nat.le_refl _) _
 have hE5:EnvK 3 22 88 89 43 V5 w.heap.size gX gO gB go n (some ⟨go,0,none⟩) cap L2:=⟨Zc hb5 q0V4,Zc hb5 qX4,by rw [<- hV5,<- hgB];exact Blk.new _ _ _,hMV4.below hb5⟩;have hO5:OutK 40 45 V5 W0.heap.size gO n []:=⟨by rw [List.map_nil,List.append_nil];exact Zc hb5 qO4,fun r hr=>(by cases hr),List.nodup_nil⟩
 have hB5:Below W0.heap.size W0 V5:=by
  have hs:=hBV02.out.size;exact hBV02.out.trans (((hb3.trans (hb4.mono hb3.size)).trans (hb5.mono (hb3.trans (hb4.mono hb3.size)).size)).mono hs)
 have hO0:W0.heap.size <= gO:=by rw [<- hgO];exact hBV02.out.size
 replace hE5:=Za hE5;replace hO5:=Za hO5;replace hB5:=Za hB5;replace hM2V:=Za hM2V;clear hMV hK2 hB2 hwl q3 q0w kW kB sV hgo1 hlt3 hBV2 hMV4 hb3 hb4 hb5 qO3 qO4 q3V2 q0V2 hM2 qX4 qv2 q3V4 q0V4 hne3 q0V qv hBV0;go_wp2_with fail;(try rw [hg6]);(try rw [hV2]);(try rw [hgX]);(try rw [hV4]);refine (Zu2 (some ⟨go,0,none⟩) n cap V4).mono ?_;rintro e w5 ⟨rfl,hw5⟩;rw [hV5] at hw5;subst hw5;rw [hgB];go_wp2_with fail;refine (wpIn_wide (n:=9)).1 ?_
 refine Zmg (by omega) (gf:=155) (lb:=#[.pointer (some ⟨gB,0,none⟩)]) rfl (enters_of Tryz.func155 (by kernel_rfl) rfl)
  (Zvd 8 (by omega) gB n cap (some ⟨go,0,none⟩) (L2.map RZ.rs) V5 (by rw [hE5.out.2.2.1.cell];rfl) (hE5.out.sl hL2l hc1 hc2)) KpR.trans (fun W l o o' _ h hc _=>KpR.put W l o o' h hc) (Below.refl _ _) (fun _=>rfl)
  (fun k W=>(EnvK 3 22 88 89 43 W w.heap.size gX gO gB go n (some ⟨go,0,none⟩) cap L2/\∃ L:List RF,L.length=k/\L.map RF.q=(Ziw X n m).drop (n - k)/\OutK 40 45 W W0.heap.size gO (n - k) L)/\Below W0.heap.size W0 W)
  (OwnFrom.and (fun k W W' row hs hg hr=>by
   obtain ⟨h1,L,h2,h3,h4⟩:=hs
   exact ⟨h1.own hg (fun r e=>(hr r e).2),L,h2,h3,h4.own hg (fun r e=>(hr r e).2)⟩) (ownFrom_below (Nat.le_refl _) hB5.out.size))
  ⟨⟨hE5.out,[],rfl,by rw [List.map_nil,Nat.sub_zero,List.drop_eq_nil_of_le];unfold Ziw;rw [List.length_map,List.length_range];exact Nat.le_refl _,hO5.out⟩,hB5.out⟩
  ?a1 ?assign ?body ?done
 case assign =>
  intro l k W K hk hK;dsimp only [Zl6]
  gi_wp2
  exact hK
 case body =>
  intro l k W hk hI;obtain ⟨⟨hE,L,hLl',hLq,hO⟩,hBW⟩:=hI;obtain ⟨i,hik⟩:∃ i,n - 1 - k=i:=⟨_,rfl⟩
  have hin:i < n:=by omega
  obtain ⟨x,hx⟩:=Zcv (L:=L2) (i:=i) (by omega)
  have hes:rsAt (L2.map RZ.rs) i=x.rs:=by unfold rsAt;rw [List.getElem?_map,hx];rfl
  have hxm:x.q.length=m:=by
   have h1:=(Zjs n 0 0 (Zt Q) false 1 hok.out).1;rw [hFIN.out] at h1
   have h2:E'[i]?=some x.q:=by rw [<- hL2q,List.getElem?_map,hx];rfl
   have h3:=h1 i (List.getElem?_eq_some_iff.1 h2).1;rw [h2] at h3;exact h3
  (try dsimp only);rw [hik,hes];dsimp only [RS.val,RZ.rs];rw [hxm];rw [show n - k=i+1 by omega] at hO hLq
  have hkn:n - (k+1)=i:=by omega
  have hLW:Hid (∀ r ∈ L,r.g < W.heap.size):=Za (fun r hr=>(hO.2.1 r hr).1.1.lt);have hbW:W0.heap.size <= W.heap.size:=hBW.size
  have hBu0:Hid (BunK 3 22 88 89 43 40 45 w.heap.size gX gO gB go n (some ⟨go,0,none⟩) cap L2 W i Zay [] L W):=Za ⟨hE,by
      have h1:=hO.1;rw [List.replicate_succ',List.append_assoc] at h1
      exact h1,OwnF.nil _ _ _,fun r hr=>(hO.2.1 r hr).1.1,Kept.refl _ _⟩
  obtain ⟨d1,d2,d3,d4,d5⟩:=hX.out;replace d1:=Za d1;replace d2:=Za d2;replace d3:=Za d3;replace d4:=Za d4;replace d5:=Za d5
  have hentZ:Hid (∀ j,x.q[j]?.getD 0=Zaf E' i j):=Za (fun j=>by
   rw [<- hL2q];unfold Zaf;rw [List.getElem?_map,hx];rfl)
  have nW:=hE.1.cell 0
  simp at nW
  replace hO:=Za hO;replace hE:=Za hE;replace hLq:=Za hLq;replace hBW:=Za hBW;replace hik:=Za hik;replace hes:=Za hes
  gi_wp2_with fail
  clear nW
  gi_loopw [13] (fun kv wr=>∃ (t:Nat) (cur:RS),kv=.int .i64 ((n:Int)+(t:Int))/\t <= m - n/\BunK 3 22 88 89 43 40 45 w.heap.size gX gO gB go n (some ⟨go,0,none⟩) cap L2 W i cur ((List.range t).map fun c=>X i (n+c)) L wr) (fun kv _=>(m - intOf kv).toNat)
  case atStart=>exact ⟨0,Zay,by go_num,Nat.zero_le _,hBu0.out⟩
  case round =>
   clear hBu0;obtain ⟨t,cur,rfl,htm,hBu⟩:=hrel
   by_cases hlt:t < m - n
   ·skip
    have t2:decide ((n:Int)+(t:Int) < (m:Int))=true:=decide_eq_true (by omega)
    have bnt:(0:Int) <= (n:Int)+(t:Int):=by omega
    have bnm:(n:Int)+(t:Int) < (m:Int):=by omega
    obtain ⟨zn,zA,zk,zc,c0,c1,hz⟩:=(hBu.1.2.2.2.row hx).1.at_ (i:=n+t) (by rw [hxm];omega);rw [hentZ.out] at hz;have nc:=hBu.1.1.cell 0
    simp at nc
    have e1:((n:Int)+(t:Int)).toNat=n+t:=by omega
    replace hBu:=Za hBu
    gi_wp2_with fail
    have hSv1:Hid (∀ wx,Below wr.heap.size wr wx->wx.cell? ⟨x.g,(n+t) * 2,none⟩=some (.bool zn)/\wx.cell? ⟨x.g,(n+t) * 2+1,none⟩=some (.slice zA zk zc)):=Za (fun wx hbx=>⟨Zb hbx c0,Zb hbx c1⟩);have hr1:Below wr.heap.size wr wr.drew:=Zf (Below.refl _ _) 1;refine Zt7 [] hmx (by kernel_rfl) hSv1 hr1 (fun hxs=>?_);refine Zi4 4 [0,1,2,3] rfl (by kernel_rfl) (hSv1.out _ hr1) ?_
    iterate 4 (refine tk1 (v:=?_) rfl (Or.inl ⟨by kernel_rfl,?_⟩) ?_;rotate_left;(· intro W2 hSw;(try dsimp only at hSw);go_simp;try with_reducible rfl);try simp only [Act.put,Zgj,Zfx,Zge,putG_a,putG_s,putG_z])
    refine tk0 ?_;refine Zbm [(4,56),(5,57),(6,51),(7,58),(9,14)] (fun i=>match i with | 6=>[8] | _=>[]) [(4,56),(5,57),(6,51),(8,59),(7,58),(9,14)] (Zbd wr.heap.size ((Zaf E' i (n+t)):Rat) 4 5 6 7 8 9 8) 2 (by kernel_rfl) (fun _ _ _ _ _ hb h=>Zg5 hb h) (fun wx h=>hSv1.out _ (hr1.trans (h.mono hr1.size))) ?hop1 ?hfin1
    case hop1 =>
     intro p hp;simp only [List.mem_cons,List.not_mem_nil,or_false] at hp;simp only [List.map_cons,List.map_nil,Zaw,Act.put,Zgj,Zfx,Zge]
     rcases hp with rfl | rfl | rfl | rfl | rfl
     ·intro ν wx hb hP
      refine Zl (i:=4) rfl (fun K hK=>?_);go_simp;refine (Za5 1 wx (by decide) (by decide)).mono ?_;rintro e w5 ⟨hb5,d0,D0,e0,f0,rfl,hN⟩;obtain rfl:d0=false:=hN.1;exact hK.out _ _ ⟨_,rfl,(by simp only [Zbd];exact ⟨_,_,_,rfl,hN⟩),hb5,trivial⟩
     ·intro ν wx hb hP
      have hbx:=hr1.trans (hb.mono hr1.size);have h0:=hP (4,56) (by simp) (by kernel_rfl);simp only [Zbd] at h0;obtain ⟨D0,e0,f0,hν,hN⟩:=h0;rw [hν];refine Zl (i:=5) rfl (fun K hK=>?_);go_simp;refine (Zc4 zn zA D0 zk zc e0 f0 (Zaf E' i (n+t)) 1 wx (hz.below hbx) hN (by decide)).mono ?_;rintro e w5 ⟨hb5,na5,A5,k5,c5,nb5,B5,m5,d5,rfl,hf5⟩;rw [Zim] at hf5;exact hK.out _ _ ⟨_,rfl,(by simp only [Zbd,Zaa];exact ⟨_,_,_,_,_,_,_,_,rfl,hf5⟩),hb5,trivial⟩
     ·intro ν wx hb hP
      have h0:=hP (5,57) (by simp) (by kernel_rfl);simp only [Zbd,Zaa] at h0;obtain ⟨na5,A5,k5,c5,nb5,B5,m5,d5,hν,hf5⟩:=h0;rw [hν];refine Zl (i:=6) rfl (fun K hK=>?_);go_simp;refine hK.out _ _ ⟨_,rfl,(by simp only [Zbd,Zaa];exact ⟨_,_,_,_,_,_,_,_,rfl,hf5⟩),Below.refl _ _,?_⟩;exact ⟨_,.int .i64 0,rfl,Or.inl ⟨by kernel_rfl,fun W2 _=>by go_simp⟩,by simp [Zbd,Zaa],trivial⟩
     ·intro ν wx hb hP
      have h0:=hP (6,51) (by simp) (by kernel_rfl);simp only [Zbd,Zaa] at h0;obtain ⟨na5,A5,k5,c5,nb5,B5,m5,d5,hν,hf5⟩:=h0;rw [hν];refine Zl (i:=7) rfl (fun K hK=>?_);go_simp;exact hK.out _ _ ⟨_,rfl,(by simp only [Zbd,Zaa];exact ⟨_,_,_,_,_,_,_,_,rfl,hf5⟩),Below.refl _ _,trivial⟩
     ·intro ν wx hb hP
      refine Zl (i:=9) rfl (fun K hK=>?_);go_simp;exact hK.out _ _ ⟨_,rfl,(by simp only [Zbd,Zaa];exact ⟨_,rfl,hb.size,Blk.new _ _ _⟩),(Below.refl _ _).alloc (Nat.le_refl _) _,trivial⟩
    case hfin1 =>
     intro ν wx hb hP;have h9:=hP (4,56) (by simp);have h0:=hP (5,57) (by simp);have h1:=hP (6,51) (by simp);have h2:=hP (7,58) (by simp);have h3:=hP (8,59) (by simp);have h4:=hP (9,14) (by simp);simp only [Zbd,Zaa] at h9 h0 h1 h2 h4;obtain ⟨y0,y1,y2,h9,-⟩:=h9;obtain ⟨a0,a1,a2,a3,a4,a5,a6,a7,h0,-⟩:=h0;obtain ⟨b0',b1',b2',b3',b4',b5',b6',b7',h1,-⟩:=h1;obtain ⟨ssn,ssA,ssk,ssc,ssm,ssB,ssj,ssd,h2,ssf⟩:=h2;obtain ⟨gss,h4,kv,qv⟩:=h4;simp only [List.map_cons,List.map_nil,Zaw,Act.put,Zgj,Zfx,Zge];rw [h9,h0,h1,h2,(show ν 59=Value.int .i64 0 by simpa [Zbd,Zaa] using h3),h4];clear h9 h0 h1 h2 h3 h4 hP ν;have hbx:=hr1.trans (hb.mono hr1.size);have qv4:=qv.four;have kv2:wr.heap.size <= gss:=kv;refine (Z3 ssn ssA ssk ssc ssm ssB ssj ssd hbx kv2 qv).elim (fun Zss hq=>?_);have c0:=qv4.1;have c1':=qv4.2.1;have c2':=qv4.2.2.1;have c3:=qv4.2.2.2.1;have f0:=qv4.2.2.2.2.1;have f1:=qv4.2.2.2.2.2.1;have f2:=qv4.2.2.2.2.2.2.1;have f3:=qv4.2.2.2.2.2.2.2;have hZ:=hq.1;refine Ze (i:=10) rfl (by kernel_rfl) (fun K hK=>?_);go_simp;(try rw [hZ]);refine hK.out _ _ (fun _=>hSv1.out _ hq.2.1) ?_;clear hK K
     try simp only [Act.put,Zgj,Zfx,Zge]
     refine Zfy 1 [11] rfl (by kernel_rfl) (hSv1.out _ hq.2.1) ?_
     (refine tk1 (v:=?_) rfl (Or.inl ⟨by kernel_rfl,?_⟩) ?_;rotate_left;(· intro W2 _;go_simp;try with_reducible rfl);try simp only [Act.put,Zgj,Zfx,Zge,putG_a,putG_s,putG_z])
     refine tk0 ?_;refine Zk (by kernel_rfl) ?_ _;refine OnlyNormal.normal ?_;have hbZss:=hq.2.1;have ssb:=Za hq.2.2.1;have hgss:Hid (wr.heap.size <= gss):=Za kv2;replace ssf:=Za (Fr.keep ssf hq.2.2.2.1);clear hq hZ c0 c1' c2' c3 f0 f1 f2 f3 qv4 qv kv kv2 hbx hb hr1 hSv1 hxs;have hBV:=hBu.out.below hbZss
     have hfs0:Fr Zss ssn ssA ssk ssc ssm ssB ssj ssd (upS (fun i j=>(Zaf E' i j:Rat)) X i (n+t) (i+1)):=by rw [Zw9 _ _ _ _ _ (Nat.le_refl _)];exact ssf.out
     have hss1:Hid (∀ r ∈ L,r.g ≠ gss):=Za (fun r hr e=>by
      have a1:=hLW.out r hr;have a2:=hBu.out.2.2.2.2.size;have a3:=hgss.out
      omega)
     have hss2:Hid (cur.val.ownBlock ≠ some gss):=Za (fun e=>by
      obtain ⟨cs,a1,-,-⟩:=hBu.out.2.2.1.ownBlk _ e;have a2:=a1.lt;have a3:=hgss.out
      omega)
     have hss3:Hid (W.heap.size <= gss):=Za (Nat.le_trans hBu.out.2.2.2.2.size hgss.out);have hssb:Hid (∀ k,k=gss->∃ t cs,Blk Zss k t cs/\NoLimb cs):=Za (fun k hk=>⟨_,_,hk ▸ ssb.out,Z2 _ _ _ _ _ _ _ _⟩);have hBT:Hid (∀ W',Kept (fun k=>k=gss) Zss W'->BunK 3 22 88 89 43 40 45 w.heap.size gX gO gB go n (some ⟨go,0,none⟩) cap L2 W i cur ((List.range t).map fun c=>X i (n+c)) L W'):=Za (fun W' hk=>hBV.turn ntF.out hts ssb.out (Z2 _ _ _ _ _ _ _ _) hss1.out hss2.out hss3.out hk);replace hfs0:=Za hfs0;replace hBV:=Za hBV;clear ssf c0 c1 nc hz hBu hBV
     gi_wp2_with fail
     gi_loopw [16] (fun jv wx=>∃ (j:Nat) (sn:Bool) (sA:Option Addr) (sk sc:Nat) (sm:Bool) (sB:Option Addr) (sj sd:Nat),jv=.int .i64 j/\i+1 <= j/\j <= n/\Blk wx gss 45 #[.bool sn,.slice sA sk sc,.bool sm,.slice sB sj sd]/\Fr wx sn sA sk sc sm sB sj sd (upS (fun i j=>(Zaf E' i j:Rat)) X i (n+t) j)/\Kept (fun k=>k=gss) Zss wx) (fun jv _=>(n - intOf jv).toNat)
     case atStart=>exact ⟨i+1,ssn,ssA,ssk,ssc,ssm,ssB,ssj,ssd,by go_num,Nat.le_refl _,by omega,ssb.out,hfs0.out,Kept.refl _ _⟩
     case round =>
      clear hfs0 ssb;obtain ⟨j,sn,sA,sk,sc,sm,sB,sj,sd,rfl,hij,hjn,qs,hfs,hKs⟩:=hrel;have hB5:=hBT.out _ hKs
      by_cases hjn':j < n
      ·skip
       have t3:decide ((j:Int) < (n:Int))=true:=decide_eq_true (by omega)
       have bj0:(0:Int) <= (j:Int):=by omega
       have bjn:(j:Int) < (n:Int):=by omega
       have bjm:(j:Int) < (m:Int):=by omega
       have ej:((j:Nat):Int).toNat=j:=by omega
       obtain ⟨zn,zA,zk,zc,c0,c1,hz⟩:=(hB5.1.2.2.2.row hx).1.at_ (i:=j) (by rw [hxm];omega);rw [hentZ.out] at hz;have nc:=hB5.1.1.cell 0
       simp at nc
       replace hB5:=Za hB5;replace qs:=Za qs;replace hfs:=Za hfs;replace hKs:=Za hKs
       gi_wp2_with fail
       have hSv2:Hid (∀ wx,Below wr.heap.size wr wx->wx.cell? ⟨x.g,(j) * 2,none⟩=some (.bool zn)/\wx.cell? ⟨x.g,(j) * 2+1,none⟩=some (.slice zA zk zc)):=Za (fun wx hbx=>⟨Zb hbx c0,Zb hbx c1⟩);have hr2:Below wr.heap.size wr wr.drew:=Zf (Below.refl _ _) 1;refine Zt7 [] hmx (by kernel_rfl) hSv2 hr2 (fun hxs=>?_);refine Zi4 4 [0,1,2,3] rfl (by kernel_rfl) (hSv2.out _ hr2) ?_
       iterate 4 (refine tk1 (v:=?_) rfl (Or.inl ⟨by kernel_rfl,?_⟩) ?_;rotate_left;(· intro W2 hSw;(try dsimp only at hSw);go_simp;try with_reducible rfl);try simp only [Act.put,Zgj,Zfx,Zge,putG_a,putG_s,putG_z])
       refine tk0 ?_;refine Zbm [(4,72),(5,73),(6,67),(7,74),(9,17)] (fun i=>match i with | 6=>[8] | _=>[]) [(4,72),(5,73),(6,67),(8,75),(7,74),(9,17)] (Zbd wr.heap.size ((Zaf E' i j):Rat) 4 5 6 7 8 9 8) 2 (by kernel_rfl) (fun _ _ _ _ _ hb h=>Zg5 hb h) (fun wx h=>hSv2.out _ (hr2.trans (h.mono hr2.size))) ?hop2 ?hfin2
       case hop2 =>
        intro p hp;simp only [List.mem_cons,List.not_mem_nil,or_false] at hp;simp only [List.map_cons,List.map_nil,Zaw,Act.put,Zgj,Zfx,Zge]
        rcases hp with rfl | rfl | rfl | rfl | rfl
        ·intro ν wx hb hP
         refine Zl (i:=4) rfl (fun K hK=>?_);go_simp;refine (Za5 1 wx (by decide) (by decide)).mono ?_;rintro e w5 ⟨hb5,d0,D0,e0,f0,rfl,hN⟩;obtain rfl:d0=false:=hN.1;exact hK.out _ _ ⟨_,rfl,(by simp only [Zbd];exact ⟨_,_,_,rfl,hN⟩),hb5,trivial⟩
        ·intro ν wx hb hP
         have hbx:=hr2.trans (hb.mono hr2.size);have h0:=hP (4,72) (by simp) (by kernel_rfl);simp only [Zbd] at h0;obtain ⟨D0,e0,f0,hν,hN⟩:=h0;rw [hν];refine Zl (i:=5) rfl (fun K hK=>?_);go_simp;refine (Zc4 zn zA D0 zk zc e0 f0 (Zaf E' i j) 1 wx (hz.below hbx) hN (by decide)).mono ?_;rintro e w5 ⟨hb5,na5,A5,k5,c5,nb5,B5,m5,d5,rfl,hf5⟩;rw [Zim] at hf5;exact hK.out _ _ ⟨_,rfl,(by simp only [Zbd,Zaa];exact ⟨_,_,_,_,_,_,_,_,rfl,hf5⟩),hb5,trivial⟩
        ·intro ν wx hb hP
         have h0:=hP (5,73) (by simp) (by kernel_rfl);simp only [Zbd,Zaa] at h0;obtain ⟨na5,A5,k5,c5,nb5,B5,m5,d5,hν,hf5⟩:=h0;rw [hν];refine Zl (i:=6) rfl (fun K hK=>?_);go_simp;refine hK.out _ _ ⟨_,rfl,(by simp only [Zbd,Zaa];exact ⟨_,_,_,_,_,_,_,_,rfl,hf5⟩),Below.refl _ _,?_⟩;exact ⟨_,.int .i64 0,rfl,Or.inl ⟨by kernel_rfl,fun W2 _=>by go_simp⟩,by simp [Zbd,Zaa],trivial⟩
        ·intro ν wx hb hP
         have h0:=hP (6,67) (by simp) (by kernel_rfl);simp only [Zbd,Zaa] at h0;obtain ⟨na5,A5,k5,c5,nb5,B5,m5,d5,hν,hf5⟩:=h0;rw [hν];refine Zl (i:=7) rfl (fun K hK=>?_);go_simp;exact hK.out _ _ ⟨_,rfl,(by simp only [Zbd,Zaa];exact ⟨_,_,_,_,_,_,_,_,rfl,hf5⟩),Below.refl _ _,trivial⟩
        ·intro ν wx hb hP
         refine Zl (i:=9) rfl (fun K hK=>?_);go_simp;exact hK.out _ _ ⟨_,rfl,(by simp only [Zbd,Zaa];exact ⟨_,rfl,hb.size,Blk.new _ _ _⟩),(Below.refl _ _).alloc (Nat.le_refl _) _,trivial⟩
       case hfin2 =>
        intro ν wx hb hP;have h9:=hP (4,72) (by simp);have h0:=hP (5,73) (by simp);have h1:=hP (6,67) (by simp);have h2:=hP (7,74) (by simp);have h3:=hP (8,75) (by simp);have h4:=hP (9,17) (by simp);simp only [Zbd,Zaa] at h9 h0 h1 h2 h4;obtain ⟨y0,y1,y2,h9,-⟩:=h9;obtain ⟨a0,a1,a2,a3,a4,a5,a6,a7,h0,-⟩:=h0;obtain ⟨b0',b1',b2',b3',b4',b5',b6',b7',h1,-⟩:=h1;obtain ⟨ccn,ccA,cck,ccc,ccm,ccB,ccj,ccd,h2,ccf⟩:=h2;obtain ⟨gcc,h4,kv,qv⟩:=h4;simp only [List.map_cons,List.map_nil,Zaw,Act.put,Zgj,Zfx,Zge];rw [h9,h0,h1,h2,(show ν 75=Value.int .i64 0 by simpa [Zbd,Zaa] using h3),h4];clear h9 h0 h1 h2 h3 h4 hP ν;have hbx:=hr2.trans (hb.mono hr2.size);have qv4:=qv.four;have kv2:wr.heap.size <= gcc:=kv;refine (Z3 ccn ccA cck ccc ccm ccB ccj ccd hbx kv2 qv).elim (fun Zcc hq=>?_);have c0:=qv4.1;have c1':=qv4.2.1;have c2':=qv4.2.2.1;have c3:=qv4.2.2.2.1;have f0:=qv4.2.2.2.2.1;have f1:=qv4.2.2.2.2.2.1;have f2:=qv4.2.2.2.2.2.2.1;have f3:=qv4.2.2.2.2.2.2.2;have hZ:=hq.1;refine Ze (i:=10) rfl (by kernel_rfl) (fun K hK=>?_);go_simp;(try rw [hZ]);refine hK.out _ _ (fun _=>hSv2.out _ hq.2.1) ?_;clear hK K
        try simp only [Act.put,Zgj,Zfx,Zge]
        refine Zfy 1 [11] rfl (by kernel_rfl) (hSv2.out _ hq.2.1) ?_
        (refine tk1 (v:=?_) rfl (Or.inl ⟨by kernel_rfl,?_⟩) ?_;rotate_left;(· intro W2 _;go_simp;try with_reducible rfl);try simp only [Act.put,Zgj,Zfx,Zge,putG_a,putG_s,putG_z])
        refine tk0 ?_;refine Zk (by kernel_rfl) ?_ _;refine OnlyNormal.normal ?_;have hbZcc:=hq.2.1;have ccb:=Za hq.2.2.1;have hgcc:Hid (wr.heap.size <= gcc):=Za kv2;replace ccf:=Za (Fr.keep ccf hq.2.2.2.1);clear hq hZ c0 c1' c2' c3 f0 f1 f2 f3 qv4 qv kv kv2 hbx hb hr2 hSv2 hxs;have hB6:=hB5.out.below hbZcc;have hK6:=hKs.out.below hbZcc;have qs6:=Zc hbZcc qs.out;have hfs6:=hfs.out.below hbZcc;obtain ⟨y,hy⟩:=Zcv (L:=L) (i:=j - (i+1)) (by have:=congrArg List.length hLq.out;rw [List.length_map,List.length_drop] at this;unfold Ziw at this;rw [List.length_map,List.length_range] at this;omega);obtain ⟨hym,hyX⟩:=Zvw hjn' hlt hLq.out (by omega) hy;obtain ⟨⟨-,hy1,hy2⟩,-⟩:=hO.out.2.1 y (List.mem_of_getElem? hy);rw [hym] at hy1;unfold maxLen at hy2
        have hoc:(List.replicate i Zay ++ cur :: L.map RF.rs)[j]?=some y.rs:=by
         rw [List.getElem?_append_right (by rw [List.length_replicate];omega),List.length_replicate,show j - i=j - (i+1)+1 by omega,List.getElem?_cons_succ,List.getElem?_map,hy];rfl
        have k0:=hB6.1.1.cell 0
        simp at k0
        have k1:=hB6.1.2.1.cell 0
        simp at k1
        have k2:=hB6.2.1.cell j;rw [Zbw hoc] at k2;simp only [RF.rs] at k2;rw [hym] at k2;obtain ⟨n3,A3,k3,c3,m3,B3,j3,d3',r0,r1,r2,r3,hf3⟩:=(hB6.2.2.2.1 y (List.mem_of_getElem? hy)).at_ (i:=t) (by rw [hym];exact hlt);rw [hyX] at hf3;obtain ⟨u0,u1,u2,u3,-⟩:=ccb.out.four;have sc1:=(d3.out i j).sm (by decide) (by decide);have sc2:=(d4.out j (n+t)).sm (by decide) (by decide);have hww:Hid (SmN 600 600 ((Zaf E' i j:Rat) * X j (n+t))):=Za ((d3.out i j).mulN (d4.out j (n+t)))
        have bt0:(0:Int) <= (t:Int):=by omega
        have btm:(t:Int) < ((m - n:Nat):Int):=by omega
        have et:(n:Int)+(t:Int) - (n:Int)=(t:Int):=by omega
        have et2:((t:Nat):Int).toNat=t:=by omega
        have et3:IntKind.i64.wrap (t:Int)=(t:Int):=by rw [IntKind.wrap_i64];omega
        replace hB6:=Za hB6;replace hK6:=Za hK6;replace qs6:=Za qs6;replace hfs6:=Za hfs6;clear c0 c1 nc hz hoc hB5 hKs qs hfs
        gi_wp2_with fail
        have hSv3:Hid (∀ wx,Below Zcc.heap.size Zcc wx->wx.cell? ⟨gcc,0,none⟩=some (.bool ccn)/\wx.cell? ⟨gcc,1,none⟩=some (.slice ccA cck ccc)/\wx.cell? ⟨gcc,2,none⟩=some (.bool ccm)/\wx.cell? ⟨gcc,3,none⟩=some (.slice ccB ccj ccd)/\wx.cell? ⟨gX,0,none⟩=some (.slice (some ⟨gO,0,none⟩) n n)/\wx.cell? ⟨w.heap.size,0,none⟩=some (.int .i64 n)/\wx.cell? ⟨gO,j,none⟩=some (.slice (some ⟨y.g,0,none⟩) (m - n) y.c)/\wx.cell? ⟨y.g,t * 4,none⟩=some (.bool n3)/\wx.cell? ⟨y.g,t * 4+1,none⟩=some (.slice A3 k3 c3)/\wx.cell? ⟨y.g,t * 4+2,none⟩=some (.bool m3)/\wx.cell? ⟨y.g,t * 4+3,none⟩=some (.slice B3 j3 d3')):=Za (fun wx hbx=>⟨Zb hbx u0,Zb hbx u1,Zb hbx u2,Zb hbx u3,Zb hbx k1,Zb hbx k0,Zb hbx k2,Zb hbx r0,Zb hbx r1,Zb hbx r2,Zb hbx r3⟩);have hr3:Below Zcc.heap.size Zcc Zcc.drew:=Zf (Below.refl _ _) 1;refine Zt7 [] hmx (by kernel_rfl) hSv3 hr3 (fun hxs3=>?_);refine Zi4 10 [0,1,2,3,4,5,6,7,8,9] rfl (by kernel_rfl) (hSv3.out _ hr3) ?_
        iterate 10 (refine tk1 (v:=?_) rfl (Or.inl ⟨by kernel_rfl,?_⟩) ?_;rotate_left;(· intro W2 hSw;(try dsimp only at hSw);go_simp;try with_reducible rfl);try simp only [Act.put,Zgj,Zfx,Zge,putG_a,putG_s,putG_z])
        refine tk0 ?_;refine Zbm [(10,87),(11,76),(12,88),(14,19)] (fun i=>match i with | 11=>[13] | _=>[]) [(10,87),(11,76),(13,89),(12,88),(14,19)] (Zaa Zcc.heap.size ((Zaf E' i j:Rat) * X j (n+t)) 10 11 12 13 14 13) 2 (by kernel_rfl) (fun _ _ _ _ _ hb h=>Ze0 hb h) (fun wx h=>hSv3.out _ (hr3.trans (h.mono hr3.size))) ?hop3 ?hfin3
        case hop3 =>
         intro p hp;simp only [List.mem_cons,List.not_mem_nil,or_false] at hp;simp only [List.map_cons,List.map_nil,Zaw,Act.put,Zgj,Zfx,Zge]
         rcases hp with rfl | rfl | rfl | rfl
         ·intro ν wx hb hP
          have hbx:=hr3.trans (hb.mono hr3.size);refine Zl (i:=10) rfl (fun K hK=>?_);go_simp;refine (Zkv ccn ccm n3 m3 ccA ccB A3 B3 cck ccc ccj ccd k3 c3 j3 d3' _ _ wx (ccf.out.below hbx) (hf3.below hbx) sc1 sc2).mono ?_;rintro e w5 ⟨hb5,na5,A5,k5,c5,nb5,B5,m5,d5,rfl,hf5⟩;exact hK.out _ _ ⟨_,rfl,(by simp only [Zaa];exact ⟨_,_,_,_,_,_,_,_,rfl,hf5⟩),hb5,trivial⟩
         ·intro ν wx hb hP
          have h0:=hP (10,87) (by simp) (by kernel_rfl);simp only [Zaa] at h0;obtain ⟨na5,A5,k5,c5,nb5,B5,m5,d5,hν,hf5⟩:=h0;rw [hν];refine Zl (i:=11) rfl (fun K hK=>?_);go_simp;refine hK.out _ _ ⟨_,rfl,(by simp only [Zaa];exact ⟨_,_,_,_,_,_,_,_,rfl,hf5⟩),Below.refl _ _,?_⟩;exact ⟨_,.int .i64 0,rfl,Or.inl ⟨by kernel_rfl,fun W2 _=>by go_simp⟩,by simp [Zaa],trivial⟩
         ·intro ν wx hb hP
          have h0:=hP (11,76) (by simp) (by kernel_rfl);simp only [Zaa] at h0;obtain ⟨na5,A5,k5,c5,nb5,B5,m5,d5,hν,hf5⟩:=h0;rw [hν];refine Zl (i:=12) rfl (fun K hK=>?_);go_simp;exact hK.out _ _ ⟨_,rfl,(by simp only [Zaa];exact ⟨_,_,_,_,_,_,_,_,rfl,hf5⟩),Below.refl _ _,trivial⟩
         ·intro ν wx hb hP
          refine Zl (i:=14) rfl (fun K hK=>?_);go_simp;exact hK.out _ _ ⟨_,rfl,(by simp only [Zaa];exact ⟨_,rfl,hb.size,Blk.new _ _ _⟩),(Below.refl _ _).alloc (Nat.le_refl _) _,trivial⟩
        case hfin3 =>
         intro ν wx hb hP;have h0:=hP (10,87) (by simp);have h1:=hP (11,76) (by simp);have h2:=hP (12,88) (by simp);have h3:=hP (13,89) (by simp);have h4:=hP (14,19) (by simp);simp only [Zaa] at h0 h1 h2 h4;obtain ⟨a0,a1,a2,a3,a4,a5,a6,a7,h0,-⟩:=h0;obtain ⟨b0',b1',b2',b3',b4',b5',b6',b7',h1,-⟩:=h1;obtain ⟨wwn,wwA,wwk,wwc,wwm,wwB,wwj,wwd,h2,wwf⟩:=h2;obtain ⟨gww,h4,kv,qv⟩:=h4;simp only [List.map_cons,List.map_nil,Zaw,Act.put,Zgj,Zfx,Zge];rw [h0,h1,h2,(show ν 89=Value.int .i64 0 by simpa [Zaa] using h3),h4];clear h0 h1 h2 h3 h4 hP ν;have hbx:=hr3.trans (hb.mono hr3.size);have qv4:=qv.four;have kv2:Zcc.heap.size <= gww:=kv;refine (Z3 wwn wwA wwk wwc wwm wwB wwj wwd hbx kv2 qv).elim (fun Zww hq=>?_);have c0:=qv4.1;have c1':=qv4.2.1;have c2':=qv4.2.2.1;have c3:=qv4.2.2.2.1;have f0:=qv4.2.2.2.2.1;have f1:=qv4.2.2.2.2.2.1;have f2:=qv4.2.2.2.2.2.2.1;have f3:=qv4.2.2.2.2.2.2.2;have hZ:=hq.1;refine Ze (i:=15) rfl (by kernel_rfl) (fun K hK=>?_);go_simp;(try rw [hZ]);refine hK.out _ _ (fun _=>hSv3.out _ hq.2.1) ?_;clear hK K
         try simp only [Act.put,Zgj,Zfx,Zge]
         refine Zfy 1 [16] rfl (by kernel_rfl) (hSv3.out _ hq.2.1) ?_
         (refine tk1 (v:=?_) rfl (Or.inl ⟨by kernel_rfl,?_⟩) ?_;rotate_left;(· intro W2 _;go_simp;try with_reducible rfl);try simp only [Act.put,Zgj,Zfx,Zge,putG_a,putG_s,putG_z])
         refine tk0 ?_;refine Zk (by kernel_rfl) ?_ _;refine OnlyNormal.normal ?_;have hbZww:=hq.2.1;have wwb:=Za hq.2.2.1;replace wwf:=Za (Fr.keep wwf hq.2.2.2.1);clear hq hZ c0 c1' c2' c3 f0 f1 f2 f3 qv4 qv kv hbx hb hr3 hSv3 hxs3;have hB7:=hB6.out.below hbZww;have hK7:=hK6.out.below hbZww;have qs7:=Zc hbZww qs6.out;have hfs7:=hfs6.out.below hbZww;have sc3:=(d5.out i (n+t) j).sm (by decide) (by decide);have sc4:=hww.out.sm (by decide) (by decide);obtain ⟨s0,s1,s2,s3,-⟩:=qs7.four;obtain ⟨v0,v1,v2,v3,-⟩:=wwb.out.four;replace hB7:=Za hB7;replace hK7:=Za hK7;replace qs7:=Za qs7;clear r0 r1 r2 r3 u0 u1 u2 u3 k0 k1 k2 sc1 sc2 hB6 hK6 qs6 hfs6 hf3 ccf ccb hbZcc hbZww
         gi_wp2_with fail
         refine ⟨trivial,?_⟩;refine (CallsIn.inRound l (callsIn_wide.2 (Zs7 sn sm wwn wwm sA sB wwA wwB sk sc sj sd wwk wwc wwj wwd _ _ Zww hfs7 wwf.out sc3 sc4))).mono ?_;rintro e w8 ⟨hb8,n6,A6,k6,c6,m6,B6,j6,d6,rfl,hf6⟩;rw [<- Zvl (fun i j=>(Zaf E' i j:Rat)) X (i:=i) (k:=n+t) (t:=j) (by omega)] at hf6;have qs8:=Zc hb8 qs7.out;have hK8:=hK7.out.below hb8;obtain ⟨W9,hW9,hB9,q9,kW9,-,s9⟩:=Z3 (B:=gss) n6 A6 k6 c6 m6 B6 j6 d6 (Below.refl gss w8) (Nat.le_refl _) qs8;have hf9:=Za (Fr.keep hf6 kW9)
         have hK9:Hid (Kept (fun k=>k=gss) Zss W9):=Za (by
          rw [<- hW9]
          exact ((((hK8.set_ (p:=⟨gss,0,none⟩) (.inl rfl) _).set_ (p:=⟨gss,1,none⟩) (.inl rfl) _).set_ (p:=⟨gss,2,none⟩) (.inl rfl) _).set_ (p:=⟨gss,3,none⟩) (.inl rfl) _))
         replace q9:=Za q9;clear s0 s1 s2 s3 v0 v1 v2 v3 hfs7 hf6 hb8 kW9 hK8;obtain ⟨s0,s1,s2,s3,s4,s5,s6',s7⟩:=qs8.four
         gi_wp2_with fail
         (try rw [hW9]);clear s0 s1 s2 s3 s4 s5 s6' s7 hW9 qs8
         go_roundw
         case measure=>simp [intOf];omega
         case rel=>exact ⟨j+1,n6,A6,k6,c6,m6,B6,j6,d6,by go_num,by omega,by omega,q9.out,hf9.out,hK9.out⟩
      ·obtain rfl:j=n:=by omega
       have t3:decide ((j:Int) < (j:Int))=false:=by simp
       have bi0:(0:Int) <= (i:Int):=by omega
       have bim:(i:Int) < (m:Int):=by omega
       have bij:(i:Int) < (j:Int):=by omega
       have ei:((i:Nat):Int).toNat=i:=by omega
       obtain ⟨zn,zA,zk,zc,c0,c1,hz⟩:=(hB5.1.2.2.2.row hx).1.at_ (i:=i) (by rw [hxm];omega);rw [hentZ.out] at hz;have nc:=hB5.1.1.cell 0
       simp at nc
       replace hB5:=Za hB5;replace qs:=Za qs;replace hfs:=Za hfs;replace hKs:=Za hKs
       gi_wp2_with fail
       have hSv4:Hid (∀ wx,Below wr.heap.size wr wx->wx.cell? ⟨x.g,(i) * 2,none⟩=some (.bool zn)/\wx.cell? ⟨x.g,(i) * 2+1,none⟩=some (.slice zA zk zc)):=Za (fun wx hbx=>⟨Zb hbx c0,Zb hbx c1⟩);have hr4:Below wr.heap.size wr wr.drew:=Zf (Below.refl _ _) 1;refine Zt7 [] hmx (by kernel_rfl) hSv4 hr4 (fun hxs=>?_);refine Zi4 4 [0,1,2,3] rfl (by kernel_rfl) (hSv4.out _ hr4) ?_
       iterate 4 (refine tk1 (v:=?_) rfl (Or.inl ⟨by kernel_rfl,?_⟩) ?_;rotate_left;(· intro W2 hSw;(try dsimp only at hSw);go_simp;try with_reducible rfl);try simp only [Act.put,Zgj,Zfx,Zge,putG_a,putG_s,putG_z])
       refine tk0 ?_;refine Zbm [(4,101),(5,102),(6,96),(7,103),(9,21)] (fun i=>match i with | 6=>[8] | _=>[]) [(4,101),(5,102),(6,96),(8,104),(7,103),(9,21)] (Zbd wr.heap.size ((Zaf E' i i):Rat) 4 5 6 7 8 9 8) 2 (by kernel_rfl) (fun _ _ _ _ _ hb h=>Zg5 hb h) (fun wx h=>hSv4.out _ (hr4.trans (h.mono hr4.size))) ?hop4 ?hfin4
       case hop4 =>
        intro p hp;simp only [List.mem_cons,List.not_mem_nil,or_false] at hp;simp only [List.map_cons,List.map_nil,Zaw,Act.put,Zgj,Zfx,Zge]
        rcases hp with rfl | rfl | rfl | rfl | rfl
        ·intro ν wx hb hP
         refine Zl (i:=4) rfl (fun K hK=>?_);go_simp;refine (Za5 1 wx (by decide) (by decide)).mono ?_;rintro e w5 ⟨hb5,d0,D0,e0,f0,rfl,hN⟩;obtain rfl:d0=false:=hN.1;exact hK.out _ _ ⟨_,rfl,(by simp only [Zbd];exact ⟨_,_,_,rfl,hN⟩),hb5,trivial⟩
        ·intro ν wx hb hP
         have hbx:=hr4.trans (hb.mono hr4.size);have h0:=hP (4,101) (by simp) (by kernel_rfl);simp only [Zbd] at h0;obtain ⟨D0,e0,f0,hν,hN⟩:=h0;rw [hν];refine Zl (i:=5) rfl (fun K hK=>?_);go_simp;refine (Zc4 zn zA D0 zk zc e0 f0 (Zaf E' i i) 1 wx (hz.below hbx) hN (by decide)).mono ?_;rintro e w5 ⟨hb5,na5,A5,k5,c5,nb5,B5,m5,d5,rfl,hf5⟩;rw [Zim] at hf5;exact hK.out _ _ ⟨_,rfl,(by simp only [Zbd,Zaa];exact ⟨_,_,_,_,_,_,_,_,rfl,hf5⟩),hb5,trivial⟩
        ·intro ν wx hb hP
         have h0:=hP (5,102) (by simp) (by kernel_rfl);simp only [Zbd,Zaa] at h0;obtain ⟨na5,A5,k5,c5,nb5,B5,m5,d5,hν,hf5⟩:=h0;rw [hν];refine Zl (i:=6) rfl (fun K hK=>?_);go_simp;refine hK.out _ _ ⟨_,rfl,(by simp only [Zbd,Zaa];exact ⟨_,_,_,_,_,_,_,_,rfl,hf5⟩),Below.refl _ _,?_⟩;exact ⟨_,.int .i64 0,rfl,Or.inl ⟨by kernel_rfl,fun W2 _=>by go_simp⟩,by simp [Zbd,Zaa],trivial⟩
        ·intro ν wx hb hP
         have h0:=hP (6,96) (by simp) (by kernel_rfl);simp only [Zbd,Zaa] at h0;obtain ⟨na5,A5,k5,c5,nb5,B5,m5,d5,hν,hf5⟩:=h0;rw [hν];refine Zl (i:=7) rfl (fun K hK=>?_);go_simp;exact hK.out _ _ ⟨_,rfl,(by simp only [Zbd,Zaa];exact ⟨_,_,_,_,_,_,_,_,rfl,hf5⟩),Below.refl _ _,trivial⟩
        ·intro ν wx hb hP
         refine Zl (i:=9) rfl (fun K hK=>?_);go_simp;exact hK.out _ _ ⟨_,rfl,(by simp only [Zbd,Zaa];exact ⟨_,rfl,hb.size,Blk.new _ _ _⟩),(Below.refl _ _).alloc (Nat.le_refl _) _,trivial⟩
       case hfin4 =>
        intro ν wx hb hP;have h9:=hP (4,101) (by simp);have h0:=hP (5,102) (by simp);have h1:=hP (6,96) (by simp);have h2:=hP (7,103) (by simp);have h3:=hP (8,104) (by simp);have h4:=hP (9,21) (by simp);simp only [Zbd,Zaa] at h9 h0 h1 h2 h4;obtain ⟨y0,y1,y2,h9,-⟩:=h9;obtain ⟨a0,a1,a2,a3,a4,a5,a6,a7,h0,-⟩:=h0;obtain ⟨b0',b1',b2',b3',b4',b5',b6',b7',h1,-⟩:=h1;obtain ⟨ddn,ddA,ddk,ddc,ddm,ddB,ddj,ddd,h2,ddf⟩:=h2;obtain ⟨gdd,h4,kv,qv⟩:=h4;simp only [List.map_cons,List.map_nil,Zaw,Act.put,Zgj,Zfx,Zge];rw [h9,h0,h1,h2,(show ν 104=Value.int .i64 0 by simpa [Zbd,Zaa] using h3),h4];clear h9 h0 h1 h2 h3 h4 hP ν;have hbx:=hr4.trans (hb.mono hr4.size);have qv4:=qv.four;have kv2:wr.heap.size <= gdd:=kv;refine (Z3 ddn ddA ddk ddc ddm ddB ddj ddd hbx kv2 qv).elim (fun Zdd hq=>?_);have c0:=qv4.1;have c1':=qv4.2.1;have c2':=qv4.2.2.1;have c3:=qv4.2.2.2.1;have f0:=qv4.2.2.2.2.1;have f1:=qv4.2.2.2.2.2.1;have f2:=qv4.2.2.2.2.2.2.1;have f3:=qv4.2.2.2.2.2.2.2;have hZ:=hq.1;refine Ze (i:=10) rfl (by kernel_rfl) (fun K hK=>?_);go_simp;(try rw [hZ]);refine hK.out _ _ (fun _=>hSv4.out _ hq.2.1) ?_;clear hK K
        try simp only [Act.put,Zgj,Zfx,Zge]
        refine Zfy 1 [11] rfl (by kernel_rfl) (hSv4.out _ hq.2.1) ?_
        (refine tk1 (v:=?_) rfl (Or.inl ⟨by kernel_rfl,?_⟩) ?_;rotate_left;(· intro W2 _;go_simp;try with_reducible rfl);try simp only [Act.put,Zgj,Zfx,Zge,putG_a,putG_s,putG_z])
        refine tk0 ?_;refine Zk (by kernel_rfl) ?_ _;refine OnlyNormal.normal ?_;have hbZdd:=hq.2.1;have ddb:=Za hq.2.2.1;have hgdd:Hid (wr.heap.size <= gdd):=Za kv2;replace ddf:=Za (Fr.keep ddf hq.2.2.2.1);clear hq hZ c0 c1' c2' c3 f0 f1 f2 f3 qv4 qv kv kv2 hbx hb hr4 hSv4 hxs;have hB6:=hB5.out.below hbZdd;have qs6:=Zc hbZdd qs.out;have hfs6:=hfs.out.below hbZdd;obtain ⟨s0,s1,s2,s3,-⟩:=qs6.four;obtain ⟨v0,v1,v2,v3,-⟩:=ddb.out.four;have sc1:=(d5.out i (j+t) j).sm (by decide) (by decide);have sc2:=(d3.out i i).sm (by decide) (by decide);have sc3:=d1.out i hin;replace hB6:=Za hB6;replace qs6:=Za qs6;clear c0 c1 nc hz hB5 hKs qs hfs hbZdd
        gi_wp2_with fail
        refine ⟨trivial,?_⟩;refine (CallsIn.inRound l (callsIn_wide.2 (Zwm sn sm ddn ddm sA sB ddA ddB sk sc sj sd ddk ddc ddj ddd _ _ Zdd hfs6 ddf.out sc1 sc2 sc3))).mono ?_;rintro e w8 ⟨hb8,n6,A6,k6,c6,m6,B6,j6,d6,rfl,hf6⟩;rw [show upS (fun i j=>(Zaf E' i j:Rat)) X i (j+t) j / (Zaf E' i i:Rat)=X i (j+t) from (d2.out i (j+t) hin (by omega) (by omega)).symm] at hf6;have hB8:=hB6.out.below hb8;have qs8:=Zc hb8 qs6.out;obtain ⟨W9,hW9,hB9,q9,kW9,-,s9⟩:=Z3 (B:=gss) n6 A6 k6 c6 m6 B6 j6 d6 (Below.refl gss w8) (Nat.le_refl _) qs8;have hf9:=Za (Fr.keep hf6 kW9)
        have hkk:Kept (fun k=>k=gss) w8 W9:=by
         rw [<- hW9];exact (((((Kept.refl (fun k=>k=gss) w8).set_ (p:=⟨gss,0,none⟩) (.inl rfl) _).set_ (p:=⟨gss,1,none⟩) (.inl rfl) _).set_ (p:=⟨gss,2,none⟩) (.inl rfl) _).set_ (p:=⟨gss,3,none⟩) (.inl rfl) _)
        have hBu9:=hB8.turn ntF.out hts qs8 (Z2 _ _ _ _ _ _ _ _) hss1.out hss2.out hss3.out hkk;replace q9:=Za q9;clear s0 s1 s2 s3 v0 v1 v2 v3 hfs6 hf6 hb8 kW9 hB6 hB8 hkk ddf ddb qs6;obtain ⟨s0,s1,s2,s3,s4,s5,s6',s7⟩:=qs8.four;have kO:=hBu9.2.1.cell i;rw [Zbw (e:=cur) (by rw [List.getElem?_append_right (by rw [List.length_replicate];exact Nat.le_refl _),List.length_replicate,Nat.sub_self];rfl)] at kO;have kX:=hBu9.1.2.1.cell 0
        simp at kX
        have kz:=hBu9.2.1.frozen i;replace hBu9:=Za hBu9
        gi_wp2_with fail
        (try rw [hW9]);clear s0 s1 s2 s3 s4 s5 s6' s7 hW9 qs8;obtain ⟨x0,x1,x2,x3,-⟩:=q9.out.four;obtain ⟨X0,hX0⟩:∃ X,W9.drew=X:=⟨_,rfl⟩
        have hr1:Below W9.heap.size W9 X0:=by rw [<- hX0];exact Zf (Below.refl _ _) 1
        have hSv1:Hid (∀ wx,Below W9.heap.size W9 wx->wx.cell? ⟨gX,0,none⟩=some (.slice (some ⟨gO,0,none⟩) j j)/\wx.cell? ⟨gO,i,none⟩=some (.slice cur.A cur.n cur.c)/\wx.cell? ⟨gss,0,none⟩=some (.bool n6)/\wx.cell? ⟨gss,1,none⟩=some (.slice A6 k6 c6)/\wx.cell? ⟨gss,2,none⟩=some (.bool m6)/\wx.cell? ⟨gss,3,none⟩=some (.slice B6 j6 d6)):=Za (fun wx hbx=>⟨Zb hbx kX,Zb hbx kO,Zb hbx x0,Zb hbx x1,Zb hbx x2,Zb hbx x3⟩);refine Zt7 [10] hmx (by kernel_rfl) hSv1 (by rw [hX0];exact hr1) (fun hxs=>?_);rw [hX0];refine Zi4 7 [0,1,2,3,4,5,6] rfl (by kernel_rfl) (hSv1.out _ hr1) ?_
        iterate 7 (refine tk1 (v:=?_) rfl (Or.inl ⟨by kernel_rfl,?_⟩) ?_;rotate_left;(· intro W2 hSw;(try dsimp only at hSw);go_simp;try with_reducible rfl);try simp only [Act.put,Zgj,Zfx,Zge,putG_a,putG_s,putG_z])
        refine tk0 ?_;obtain ⟨Y1,hY1⟩:∃ Y,X0.alloc (.cells #[.bool n6,.slice A6 k6 c6,.bool m6,.slice B6 j6 d6] 45)=Y:=⟨_,rfl⟩;obtain ⟨ga,hga⟩:∃ g,X0.heap.size=g:=⟨_,rfl⟩
        have hBY:Below X0.heap.size X0 Y1:=by rw [<- hY1];exact (Below.refl _ _).alloc (Nat.le_refl _) _
        have hbl:Blk Y1 ga 45 #[.bool n6,.slice A6 k6 c6,.bool m6,.slice B6 j6 d6]:=by rw [<- hY1,<- hga];exact Blk.new _ _ _
        have hr2:Below W9.heap.size W9 Y1:=hr1.trans (hBY.mono hr1.size);refine Ze (i:=7) rfl (by kernel_rfl) (fun K hK=>?_);go_simp;(try rw [hY1]);(try rw [hga]);refine hK.out _ _ (fun _=>hSv1.out _ hr2) ?_;clear hK K hY1 hga
        try simp only [Act.put,Zgj,Zfx,Zge]
        have hBuY:=hBu9.out.below hr2;have hfY:=hf9.out.below hr2;have hYs:=hBuY.2.2.2.2.size;refine Ze (i:=8) rfl (by kernel_rfl) (fun K hK=>?_);rw [if_pos (by rfl)];refine Zgu _ (.tmp 116) (.tmp 118) 40 rfl W.heap.size 45 iF Tryz.underlying40 hi hz0 hz1 hz2 cur.val ((List.range t).map fun c=>X i (j+c)) rfl hBuY.2.2.1 _ (some ⟨ga,0,none⟩) 1 1 [⟨n6,A6,k6,c6,m6,B6,j6,d6,X i (j+t)⟩] rfl (Zf3 _ hbl) rfl (by intro e he;rw [List.mem_singleton] at he;subst he;exact hfY) (by simp;omega) hYs ?_;intro v2 Y2 hO2 hg2 hk2
        obtain ⟨nA,nn,nc,rfl⟩:∃ A n c,v2=.slice A n c:=by
         obtain ⟨A,c,e,-⟩:=hO2.fl;exact ⟨_,_,_,e⟩
        have hO2':OwnF 45 Y2 W.heap.size (RS.val ⟨nA,nn,nc⟩) ((List.range (t+1)).map fun c=>X i (j+c)):=by
         rw [List.range_succ,List.map_append];exact hO2
        have hown:=hBuY.2.2.1.ownBlk
        have hS2:Y2.cell? ⟨gX,0,none⟩=some (.slice (some ⟨gO,0,none⟩) j j)/\Y2.cell? ⟨gO,i,none⟩=some (.slice cur.A cur.n cur.c)/\Y2.cell? ⟨gss,0,none⟩=some (.bool n6)/\Y2.cell? ⟨gss,1,none⟩=some (.slice A6 k6 c6)/\Y2.cell? ⟨gss,2,none⟩=some (.bool m6)/\Y2.cell? ⟨gss,3,none⟩=some (.slice B6 j6 d6):=by
         have f:∀ (g o:Nat) (v:Value),g < W.heap.size \/ g=gO \/ g=gss->Y1.cell? ⟨g,o,none⟩=some v->Y2.cell? ⟨g,o,none⟩=some v:=fun g o v hgg hv=>by
          rw [<- hv];refine World.cell?_of_block (hg2.block g (Zp hv) (fun e=>?_));obtain ⟨cs,a1,-,a2⟩:=hown g e.symm
          rcases hgg with h1 | h1 | h1
          ·omega
          ·subst h1;exact hts (hBuY.2.1.type a1)
          ·subst h1;exact hss2.out e.symm
         have hgXW:gX < W.heap.size:=hE.out.2.1.lt;obtain ⟨a0,a1,a2,a3,a4,a5⟩:=hSv1.out _ hr2;exact ⟨f _ _ _ (.inl hgXW) a0,f _ _ _ (.inr (.inl rfl)) a1,f _ _ _ (.inr (.inr rfl)) a2,f _ _ _ (.inr (.inr rfl)) a3,f _ _ _ (.inr (.inr rfl)) a4,f _ _ _ (.inr (.inr rfl)) a5⟩
        refine hK.out _ _ (fun _=>hS2) ?_;clear hK K
        try simp only [Act.put,Zgj,Zfx,Zge]
        have hfin9:=Za (hBuY.app ntF.out ntS.out hts hLW.out (cur':=⟨nA,nn,nc⟩) hg2 hO2' hk2);have kO2:=hS2.2.1
        have kzO:Y2.frozen? ⟨gO,i,none⟩=false:=by
         rw [World.frozen?_of_block (hg2.block gO hBuY.2.1.lt (fun e=>by
          obtain ⟨cs,a1,-,-⟩:=hown gO e.symm
          exact hts (hBuY.2.1.type a1)))]
         exact hBuY.2.1.frozen i
        refine Zfy 1 [9] rfl (by kernel_rfl) hS2 ?_
        (refine tk1 (v:=?_) rfl (Or.inl ⟨by kernel_rfl,?_⟩) ?_;rotate_left;(· intro W2 _;go_simp;try with_reducible rfl);try simp only [Act.put,Zgj,Zfx,Zge,putG_a,putG_s,putG_z])
        refine tk0 ?_;clear hS2 hO2 hO2' hown hBuY hfY hbl hBY hr2;refine Zu (i:=10) rfl (by kernel_rfl) (by kernel_rfl) (fun K hK=>?_);go_simp;refine hK.out _ _ ?_;clear hK K
        try simp only [Act.put,Zgj,Zfx,Zge]
        refine Zk (by kernel_rfl) ?_ _;refine OnlyNormal.normal ?_;clear kO2 kzO hxs hSv1 hr1 kX kO kz x0 x1 x2 x3 hg2 hk2
        gi_wp2_with fail
        go_roundw
        case measure=>simp [intOf];omega
        case rel=>exact ⟨t+1,⟨nA,nn,nc⟩,by go_num,by omega,hfin9.out⟩
   ·obtain rfl:t=m - n:=by omega
    have t2:decide ((n:Int)+((m - n:Nat):Int) < (m:Int))=false:=decide_eq_false (by omega);obtain ⟨r,hrq,hOut⟩:=hBu.out (by simp;omega) hO.out hbW;have hKo:KeepsOthers W wr:=hBu.2.2.2.2.others (fun k hk=>⟨_,_,hk ▸ hO.out.1⟩);have hBwr:Below W0.heap.size W0 wr:=hBW.out.trans (hBu.2.2.2.2.to_below (fun k hk=>by rw [hk];exact hO0) hbW);have hEw:=hBu.1
    gi_wp2_with fail
    (try go_at_K);refine ⟨hKo,⟨fun _=>by rw [hEw.2.2.1.cell];rfl,fun _=>hEw.sl hL2l hc1 hc2⟩,⟨hEw,r :: L,by rw [List.length_cons,hLl'],?_,?_⟩,hBwr⟩
    ·rw [List.map_cons,hrq,hLq.out,Ztq hk,show n - k=i+1 by omega,show n - 1 - k=i by omega]
    ·rw [hkn];exact hOut
 case done =>
  intro D W hD hI hK
  have hI2:∀ (W':World),W'=W.putObj D (.deferred none)->(EnvK 3 22 88 89 43 W' w.heap.size gX gO gB go n (some ⟨go,0,none⟩) cap L2/\∃ L:List RF,L.length=n/\L.map RF.q=(Ziw X n m).drop (n - n)/\OutK 40 45 W' W0.heap.size gO (n - n) L):=fun W' e=>by
   obtain ⟨⟨h1,L,h2,h3,h4⟩,-⟩:=hI;subst e
   have hr:∀ r,some D=some r->∃ o:Obj,W.heap[r]?=some o/\o.isCells=false:=fun r e=>by cases e;exact ⟨_,hK,rfl⟩
   exact ⟨h1.own (grownBy_putObj' W D _) hr,L,h2,h3,h4.own (grownBy_putObj' W D _) hr⟩
  have kX:=hI.1.1.2.1.cell 0
  simp at kX
  have hBW:=hI.2;clear hI;go_wp2_with fail
  have hsV:w.heap.size <= V5.heap.size:=by
   have h1:=hB5.out.size;have h2:=hB0.size;omega
  refine ⟨by simp,.inl ⟨_,_,rfl,run_takeDeferred hK,?_⟩⟩;obtain ⟨hE2,L,hl2,hq2,hO2⟩:=hI2 _ rfl;rw [Nat.sub_self] at hq2 hO2;refine ⟨.tuple #[.slice (some ⟨gO,0,none⟩) n n,.bool true],by simp [results,Tryz.f63,go_sem],gO,L,rfl,(hB0.trans (hBW.mono hB0.size)).trans (belowK_b (w:=V5) hsV W D _ _ hD hK rfl rfl),by have h2:=hB0.size;omega,⟨⟨[],?_⟩,fun r hr=>(hO2.2.1 r hr).1,?_⟩,by rw [hq2,List.drop_zero],fun r hr=>Nat.le_trans hB0.size (hO2.2.1 r hr).2⟩
  ·have h1:=hO2.1
   rw [List.replicate_zero,List.nil_append] at h1;rw [List.append_nil];exact h1
  ·rw [List.nodup_cons]
   refine ⟨fun hm=>?_,hO2.2.2⟩;obtain ⟨r,hr,e⟩:=List.mem_map.1 hm;obtain ⟨es,zs,h1,-,-⟩:=(hO2.2.1 r hr).1.1;rw [e] at h1;exact hts (hO2.1.type h1)
end Go.Proofs.YtigdclhagmnopaaGreat
