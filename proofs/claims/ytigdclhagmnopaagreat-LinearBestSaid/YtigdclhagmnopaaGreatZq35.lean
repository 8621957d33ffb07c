/- Package linear: back, where there is no solution. -/
import Derived.Lib.AppendZeros
import Derived.Test.YtigdclhagmnopaaGreatZq34
set_option maxRecDepth 100000
set_option maxHeartbeats 8000000
set_option linter.unusedSimpArgs false
set_option linter.unusedVariables false
namespace Go.Proofs.YtigdclhagmnopaaGreat
open Go.RowKit Go.Shelf
attribute [local go_sem] Zh
attribute [local go_sem] Oper.semAt_some
theorem Zpx (A:Option Addr) (n c m:Nat) (Q:List (List Rat)) (w:World) (h:MFL w A n c Q) (hn0:0 < n) (hn9:n <= 900) (hnm:n <= m) (hm9:m <= 900) (hm:∀ i,i < n->(Q[i]?.getD []).length=m) (hok:okZ (pw 200) m n 0 0 (Zt Q) 1) (hfin:Zgl Q n m) (hrk:(Zae n 0 0 (Zt Q) false 1).2.1 < n) :
    Calls Tryz.prog 63 #[.slice A n c,.int .i64 n] w fun e w'=>e=.returned (.tuple #[.slice none 0 0,.bool false])/\Below w.heap.size w w':=by
 have hmx:Tryz.prog.follows .mixedOrders=true:=by kernel_rfl
 have hne:(89:TypeId) ≠ 43:=by decide
 have hts:(40:TypeId) ≠ 45:=by decide
 have ntF:Hid (NoT 3 22 88 89 43 45):=Za (by unfold NoT;decide);have ntS:Hid (NoT 3 22 88 89 43 40):=Za (by unfold NoT;decide);obtain ⟨iF,hi,hz0,hz1,hz2⟩:=info_parts Ze2;obtain ⟨iS,ki,kz0,kz1,kz2⟩:=info_parts Zjm;have hQl:=Za h.1;obtain ⟨W0,hW0,hB0,q0,s0⟩:=Zbr w 3 #[.int .i64 n];replace h:=h.below hB0;obtain ⟨FIN,hFIN⟩:∃ X,Zae n 0 0 (Zt Q) false 1=X:=⟨_,rfl⟩;rw [hFIN] at hrk;obtain ⟨E',rk,ng,la⟩:=FIN;replace hrk:rk < n:=hrk;replace hFIN:=Za hFIN;replace hok:=Za hok;refine (callsIn_wide (n:=9)).1 ?_;refine callsIn_of_wp_marks Tryz.func63 rfl trivial ?_ rfl;simp only [Tryz.ntmps63,List.size_toArray,List.length_cons,List.length_nil,Nat.reduceAdd,Nat.reduceSub,Array.replicate_succ,Array.replicate_zero,List.push_toArray,List.append_toArray,List.nil_append,List.cons_append];refine wpIn_wide.2 ?_;go_wp2_with fail;refine (Zka A n c m Q W0 h hn9 hm (by omega) hm9 hfin.1 hfin.2).mono ?_;rintro e w1 ⟨v,vb,L,rfl,hb1,hM,hq,hP,hdis⟩;obtain ⟨vA,vc,rfl,hbc1,hbc2,-⟩:=hP.poly_at;rw [List.length_map,List.length_range] at hbc1 hP hdis ⊢;unfold maxLen at hbc2;have hLl:=congrArg List.length hq;rw [List.length_map] at hLl;unfold Zt at hLl;rw [List.length_map,hQl.out] at hLl;obtain ⟨go,cap,rfl,hc1,hc2,hgo,hMM,hgs⟩:=hM.mat hne (fun e=>by rw [e] at hLl;simp at hLl;omega);rw [hLl] at hc1 ⊢;obtain ⟨g3,hg3⟩:∃ g,w1.heap.size=g:=⟨_,rfl⟩;obtain ⟨V,hV,hBV,qv,kW,kB,sV⟩:=Zr 91 #[.slice (some ⟨go,0,none⟩) n cap,.slice vA n vc] (Below.refl w1.heap.size w1) (Nat.le_refl _);have hMV:=hMM.below hBV
 have q0V:=(Zc hb1 q0).below hBV (Zc hb1 q0).lt;rw [hg3] at qv;obtain ⟨x0,x1,-,-⟩:=qv.two;have nV:=q0V.cell 0
 simp at nV
 replace hLl:=Za hLl;have hsz0:Hid (w.heap.size < W0.heap.size):=Za (by omega);have hBV0:Hid (Below W0.heap.size W0 V):=Za (hb1.trans (hBV.mono hb1.size))
 have hgo1:∀ k,(k=go \/ k ∈ L.map RZ.g)->W0.heap.size <= k:=fun k hk=>by
  rcases hk with rfl | hk
  ·exact hgo
  ·obtain ⟨s,hs,rfl⟩:=List.mem_map.1 hk
   exact hgs s hs
 have hlt3:∀ k,(k=go \/ k ∈ L.map RZ.g)->k < g3:=fun k hk=>by
  obtain ⟨t,cs,hb,-⟩:=hMM.boxes k hk;rw [<- hg3];exact hb.lt
 replace hgo1:=Za hgo1;replace hlt3:=Za hlt3;replace qv:=Za qv;replace q0V:=Za q0V;clear hM hMM kW kB sV hdis hP h hW0 hgo hgs q0 hb1 hBV;go_wp2_with fail;(try rw [hg3]);(try rw [hV]);refine (Ze7 go n cap L (.slice vA n vc) m n V hMV hLl.out hn0 hn9 hc1 hc2 (by omega) hm9 (by rw [hq];exact hok.out)).mono ?_;rw [hq,hFIN.out];rintro e w2 ⟨L2,ln,lA,lk,lc,rfl,hwl,hL2l,-,hL2q,hM2,hK2⟩;replace hL2q:L2.map RZ.q=E':=hL2q;clear hV x0 x1 nV
 have hne3:¬ (g3=go \/ g3 ∈ L.map RZ.g):=fun h=>by have:=hlt3.out g3 h;omega
 have q3:=hK2.blk qv.out hne3;have q0w:=hK2.blk q0V.out (fun h=>by have:=hgo1.out _ h;have:=hsz0.out;omega);have hB2:Below W0.heap.size W0 w2:=hBV0.out.trans (hK2.to_below hgo1.out hBV0.out.size);obtain ⟨g6,hg6⟩:∃ g,w2.heap.size=g:=⟨_,rfl⟩;obtain ⟨V2,hV2,hBV2,qv2,kW,kB,sV⟩:=Zr 43 #[.bool ln,.slice lA lk lc] (Below.refl w2.heap.size w2) (Nat.le_refl _);have q3V2:=q3.below hBV2 q3.lt;have q0V2:=q0w.below hBV2 q0w.lt;have hM2V:=hM2.below hBV2;have hBV02:=Za (hB2.trans (hBV2.mono hB2.size));obtain ⟨y0,y1,-,-⟩:=q3V2.two;have nV2:=q0V2.cell 0
 simp at nV2
 have t1:decide ((rk:Int) < (n:Int))=true:=decide_eq_true (by omega);have hB9:Hid (Below w.heap.size w V2):=Za (hB0.trans (hBV02.out.mono hB0.size));clear hMV hK2 hB2 hwl q3 q0w kW kB sV hgo1 hlt3 hBV2 q3V2 q0V2 hM2 qv2 hne3 q0V qv hBV0 hM2V hm hfin hok;go_wp2_with fail;(try rw [hg6]);(try rw [hV2]);go_wp2_with fail;exact ⟨.tuple #[.slice none 0 0,.bool false],by simp [results,Tryz.f63,go_sem],rfl,hB9.out⟩
open Go.RowKit
theorem Zvk (k:Nat) (w:World) (h0:0 < k) (h9:k <= 900) :
    Calls Tryz.prog 118 #[.slice none 0 0,.int .i64 k] w fun e w'=>∃ v,e=.returned v/\Below w.heap.size w w'/\OwnF 45 w' w.heap.size v []:=by
 obtain ⟨iF,hi,hz0,hz1,hz2⟩:=info_parts Ze2;have hge:=grownCap_ge w k 0 45;have hcm:=grownCap_le_maxLen w k 0 45 (by unfold maxLen;omega);obtain ⟨cap,hcap⟩:∃ c,grownCap w k 0 45=c:=⟨_,rfl⟩
 have hrun:=fun ty=>Go.Lib.run_append_nil_zeros (P:=Tryz.prog) w 40 3 ty 45 iF _ .i64 .i64 Tryz.underlying40 Tryz.underlying3 hi hz0 k h0 (by omega) (by omega) (by rw [hz2];omega)
 obtain ⟨W1,hW1⟩:∃ W,w.drew.alloc (.cells (Builtin.zeroCells (Value.agg #[.bool false,.slice none 0 0,.bool false,.slice none 0 0]).cells k ++ Builtin.zeroCells (Value.agg #[.bool false,.slice none 0 0,.bool false,.slice none 0 0]).cells (grownCap w k 0 45 - k)) 45)=W:=⟨_,rfl⟩;rw [hW1,hcap] at hrun;rw [hcap] at hge hcm hW1;obtain ⟨g,hg⟩:∃ g,w.heap.size=g:=⟨_,rfl⟩
 have hb:Below w.heap.size w W1:=by rw [<- hW1];exact ((Zf (Below.refl _ _) 1).alloc (Nat.le_refl _) _)
 have hbk:Blk W1 g 45 (Z8 (List.replicate cap Zax)):=by
  have h1:Builtin.zeroCells (Value.agg #[.bool false,.slice none 0 0,.bool false,.slice none 0 0]).cells k ++ Builtin.zeroCells (Value.agg #[.bool false,.slice none 0 0,.bool false,.slice none 0 0]).cells (cap - k)=Z8 (List.replicate cap Zax):=by
   apply Array.toList_inj.1
   rw [Array.toList_append,show (Value.agg #[.bool false,.slice none 0 0,.bool false,.slice none 0 0]).cells=#[.bool false,.slice none 0 0,.bool false,.slice none 0 0] from rfl,Zcf,Zcf,<- Zam,List.replicate_append_replicate,Nat.add_sub_cancel' hge]
   rfl
  rw [<- hW1,h1,<- hg];exact Blk.new _ _ _
 rw [hg] at hrun hb ⊢
 have t1:¬ ((k:Int) < 0):=by omega
 have t2:decide ((k:Int) < 0)=false:=decide_eq_false t1;have t3:decide ((k:Int) > 0)=true:=decide_eq_true (by omega);have t4:decide ((0:Int) < (k:Int))=true:=decide_eq_true (by omega);have t5:decide (0 < k)=true:=decide_eq_true h0
 have hcap0:(0:Int) <= (cap:Int):=by omega
 clear hW1 hg hcap;go_enter Tryz.func118,Tryz.ntmps118;go_wp2_with (at_builtin;refine Go.Lib.wpList_append_run w rfl (.tmp 20) (.tmp 21) 40 3 rfl (.slice none 0 0) (.int .i64 k) rfl rfl _ _ (hrun _) ?_);go_ret;exact ⟨_,rfl,hb,[],.inr ⟨g,cap,by simp,Nat.le_refl _,by simpa using hcm,by simpa using hbk⟩,fun e he=>(by cases he),rfl⟩
theorem Znk {α:Type} (l:List (List α)) {i:Nat} {x:List α} (h:l[i]?=some x):(l.take (i+1)).flatten=(l.take i).flatten ++ x:=by
 rw [List.take_add_one,h,List.flatten_append];simp
theorem Zny {α:Type} (l:List (List α)) (i:Nat):(l.take i).flatten.length <= l.flatten.length:=by
 have h:l.flatten=(l.take i).flatten ++ (l.drop i).flatten:=by rw [<- List.flatten_append,List.take_append_drop]
 rw [h,List.length_append];omega
theorem Znm (go n c:Nat) (L:List RF) (w:World) (hM:MatB 40 45 w go L) (hl:L.length=n) (hn9:n <= 900) (hc:n <= c) (hcm:c <= maxLen) (h0:0 < (L.map RF.q).flatten.length) (h9:(L.map RF.q).flatten.length <= 900) :
    Calls Tryz.prog 64 #[.slice (some ⟨go,0,none⟩) n c] w fun e w'=>∃ v,e=.returned v/\Below w.heap.size w w'/\OwnF 45 w' w.heap.size v (L.map RF.q).flatten:=by
 obtain ⟨iF,hi,hz0,hz1,hz2⟩:=info_parts Ze2;unfold maxLen at hcm;replace hl:=Za hl;replace hM:=Za hM;obtain ⟨T,hT⟩:∃ T,(L.map RF.q).flatten.length=T:=⟨_,rfl⟩;rw [hT] at h0 h9;have hTi:Hid (∀ i,((L.map RF.q).take i).flatten.length <= T):=Za (fun i=>by rw [<- hT];exact Zny _ i);replace hT:=Za hT;go_enter Tryz.func64,Tryz.ntmps64;go_wp2_with fail
 go_loopg [11,3] n (fun k iv sv wr=>∃ i s:Nat,i+k=n/\iv=.int .i64 i/\sv=.int .i64 s/\Hid (((L.map RF.q).take i).flatten.length=s)/\Hid (wr=w))
 case atStart=>exact ⟨0,0,by omega,rfl,rfl,Za (by simp),Za rfl⟩
 case round =>
  obtain ⟨i,s,hik,rfl,rfl,hs,hwr⟩:=hrel;have hwr:=hwr.out;subst hwr;obtain ⟨w3,hw3⟩:∃ x:World,x=wr:=⟨_,rfl⟩;subst hw3
  cases gk with
  | zero =>
   obtain rfl:i=n:=by omega
   have t1:decide ((i:Int) < (i:Int))=false:=by simp
   obtain rfl:s=T:=by
    rw [<- hs.out,List.take_of_length_le (by rw [List.length_map,hl.out];exact Nat.le_refl _)];exact hT.out
   go_wp2_with fail;refine (Zvk s _ h0 h9).mono ?_;rintro e w1 ⟨v,rfl,hb1,hO1⟩;obtain ⟨vA,vc,rfl,-⟩:=hO1.fl;replace hO1:=Za hO1;go_wp2_with fail
   go_loopg [27,6] i (fun k iv ov w2=>∃ (j:Nat) (v:Value),j+k=i/\iv=.int .i64 j/\ov=v/\Below w3.heap.size w3 w2/\OwnF 45 w2 w3.heap.size v ((L.map RF.q).take j).flatten)
   case atStart=>exact ⟨0,_,by omega,rfl,rfl,hb1,hO1.out⟩
   case round =>
    clear hb1 hO1;obtain ⟨j,v,hjk,rfl,rfl,hB,hO⟩:=hrel
    cases gk with
    | zero =>
     obtain rfl:j=i:=by omega
     have t1:decide ((j:Int) < (j:Int))=false:=by simp
     replace hO:=Za hO;go_wp2_with fail;go_ret;refine ⟨_,rfl,hB,?_⟩;have h1:=hO.out;rw [List.take_of_length_le (by rw [List.length_map,hl.out];exact Nat.le_refl _)] at h1;exact h1
    | succ k' =>
     obtain rfl:k'=i - (j+1):=by omega
     have hji:j < i:=by omega
     have t1:decide ((j:Int) < (i:Int))=true:=decide_eq_true (by omega)
     have bi:(j:Int) < (i:Int):=by omega
     obtain ⟨x,hx⟩:=Zcv (L:=L) (i:=j) (by rw [hl.out];exact hji);have hM2:=hM.out.below hB;obtain ⟨cx,-⟩:=hM2.cell hx;obtain ⟨fx,fx1,fx2⟩:=hM2.row hx;obtain ⟨fs,hR,hfl,hfe,hfq⟩:=(fx.fl fx1 fx2).reads;have e1:=Znk (L.map RF.q) (i:=j) (x:=x.q) (by rw [List.getElem?_map,hx];rfl);have e2:=hTi.out (j+1);rw [e1,List.length_append] at e2;replace e1:=Za e1
     have e3:((L.map RF.q).take j).flatten.length+x.q.length <= 1000:=by omega
     replace e3:=Za e3;replace hfe:=Za hfe;have hs:=hB.size;clear fx e2 hM2;go_wp2_with (at_builtin;refine Zc6 _ rfl (.tmp 31) (.tmp 32) 40 rfl w3.heap.size 45 iF Tryz.underlying40 hi hz0 hz1 hz2 _ ((L.map RF.q).take j).flatten rfl hO _ _ _ _ fs rfl hR hfl hfe.out e3.out hs ?_;intro v2 w5 hO2 hg5 hk5);have hB5:=hB.grown hg5 hs (fun k hk=>hO.row_ge k hk);rw [hfq,<- e1.out] at hO2
     go_roundg (i - (j+1))
     case measure=>omega
     case rel=>exact ⟨j+1,_,by omega,by go_num,rfl,hB5,hO2⟩
  | succ k' =>
   obtain rfl:k'=n - (i+1):=by omega
   have hin:i < n:=by omega
   have t1:decide ((i:Int) < (n:Int))=true:=decide_eq_true (by omega)
   have bi:(i:Int) < (n:Int):=by omega
   obtain ⟨x,hx⟩:=Zcv (L:=L) (i:=i) (by rw [hl.out];exact hin);obtain ⟨cx,-⟩:=hM.out.cell hx;have e1:=Znk (L.map RF.q) (i:=i) (x:=x.q) (by rw [List.getElem?_map,hx];rfl);have e2:=hTi.out (i+1);rw [e1,List.length_append,hs.out] at e2;have e3:Hid (((L.map RF.q).take (i+1)).flatten.length=s+x.q.length):=Za (by rw [e1,List.length_append,hs.out]);obtain ⟨y,hy⟩:∃ y,x.q.length=y:=⟨_,rfl⟩;rw [hy] at cx e2 e3;have t2:decide ((s:Int)+(y:Int) < 0)=false:=decide_eq_false (by omega);clear e1;go_wp2_with fail
   go_roundg (n - (i+1))
   case measure=>omega
   case rel=>exact ⟨i+1,s+y,by omega,by go_num,by go_num,e3,Za rfl⟩
def wideB (Q:List (List Rat)) (b:List Rat) (n i:Nat):List (List Rat):=(List.range n).map fun j=>Q[j]?.getD [] ++ if j < i then [b[j]?.getD 0] else []
theorem Zj0 {Q:List (List Rat)} {b:List Rat} {n i j:Nat} (hj:j < n):(wideB Q b n i)[j]?.getD []=Q[j]?.getD [] ++ if j < i then [b[j]?.getD 0] else []:=by
 unfold wideB;rw [List.getElem?_map,List.getElem?_range hj];rfl
theorem Zm6 (Q:List (List Rat)) (b:List Rat) (n i:Nat):(wideB Q b n i).length=n:=by unfold wideB;simp
theorem Zo2 (x y:Value) (W:World):(callFunc 77 #[x,y]).run Tryz.prog W=.ok (.enter 77 #[x,y]) W:=by simp [go_sem]
theorem Zuy (gx:Nat) (B:Option Addr) (n cb i:Nat) (b:List Rat) (w:World) (hx:w.cell? ⟨gx,0,none⟩=some (.slice B n cb)) (h:FL w B n cb b) (hi:i < n) :
    Calls Tryz.prog 77 #[.int .i64 i,.pointer (some ⟨gx,0,none⟩)] w fun e w'=>∃ A c,e=.returned (.slice A 1 c)/\Below w.heap.size w w'/\FL w' A 1 c [b[i]?.getD 0]:=by
 obtain ⟨hnc,hcm⟩:=h.cap;unfold maxLen at hcm;have hbl:=h.len;obtain ⟨g,o,-,-,-,-,-,-,-,-,rfl,-,-⟩:=h.at_ hi;have h1:=(h.drop rfl (k:=i) (by omega)).take (k:=1) (by omega)
 have e1:(b.drop i).take 1=[b[i]?.getD 0]:=by
  rw [List.drop_eq_getElem_cons (by omega),List.take_succ_cons,List.take_zero,List.getElem?_eq_getElem (by omega)];rfl
 rw [e1] at h1
 have b1:(0:Int) <= (i:Int):=by omega
 have b2:(i:Int) <= (i:Int)+1:=by omega
 have b3:(i:Int)+1 <= (cb:Int):=by omega
 have e2:((i:Int)+1).toNat=i+1:=by omega
 have e3:i+1 - i=1:=by omega
 replace h1:=Za h1;clear h e1;go_enter Tryz.func77,Tryz.ntmps77
 go_wp2
 go_ret;exact ⟨_,_,rfl,Below.refl _ _,h1.out⟩
theorem Zq7 (A B:Option Addr) (n c nb cb:Nat) (rs:List RX) (es:List FX) (w:World) (h:MXL w A n c rs) (hb:FXL w B nb cb es) (E:Int) (hs:sqE rs=E) (hE:E ≠ 0) :
    Calls Tryz.prog 26 #[.slice A n c,.slice B nb cb] w fun e w'=>e=.returned (.tuple #[.slice none 0 0,.int .i64 E])/\Below w.heap.size w w':=by
 obtain ⟨W0,hW0,hB0,q0,s0⟩:=Zbr w 40 #[.slice B nb cb];have t1:decide (E ≠ 0)=true:=decide_eq_true hE
 have t1':(E != 0)=true:=by simpa using hE
 replace h:=Za (h.below hB0);replace hs:=Za hs;replace hE:=Za hE;go_enter Tryz.func26,Tryz.ntmps26;go_wp2_with fail;(try rw [hW0]);refine (Zdf A n c rs W0 h.out E hs.out).mono ?_;rintro e w1 ⟨rfl,hb1⟩;go_wp2_with fail;go_returns;exact ⟨rfl,hB0.trans (hb1.mono hB0.size)⟩
theorem Zp7 (A B:Option Addr) (n c nb cb:Nat) (rs:List RX) (es:List FX) (w:World) (h:MXL w A n c rs) (hb:FXL w B nb cb es) (hs:sqE rs=0) (hv:nb ≠ n \/ Zcn es=false) :
    Calls Tryz.prog 26 #[.slice A n c,.slice B nb cb] w fun e w'=>e=.returned (.tuple #[.slice none 0 0,.int .i64 8])/\Below w.heap.size w w':=by
 obtain ⟨W0,hW0,hB0,q0,s0⟩:=Zbr w 40 #[.slice B nb cb];replace h:=Za (h.below hB0);replace hs:=Za hs;replace hb:=Za (hb.below hB0);obtain ⟨V,hV⟩:∃ V,Zcn es=V:=⟨_,rfl⟩;rw [hV] at hv;replace hV:=Za hV;go_enter Tryz.func26,Tryz.ntmps26;go_wp2_with fail;(try rw [hW0]);refine (Zdf A n c rs W0 h.out 0 hs.out).mono ?_;rintro e w1 ⟨rfl,hb1⟩;have k0:=(Zc hb1 q0).cell 0
 simp at k0
 by_cases hl:nb=n
 ·subst hl
  have t1:(((nb:Int)) != (nb:Int))=false:=by simp
  obtain rfl:V=false:=by
   rcases hv with hv | hv
   ·exact absurd rfl hv
   ·exact hv
  go_wp2_with fail;refine (Zgv B nb cb es w1 (hb.out.below hb1) false hV.out).mono ?_;rintro e w2 ⟨rfl,hb2⟩;go_wp2_with fail;go_returns;exact ⟨rfl,(hB0.trans (hb1.mono hB0.size)).trans (hb2.mono (Nat.le_trans hB0.size hb1.size))⟩
 ·have t1:(((nb:Int)) != (n:Int))=true:=by simp;omega
  have t2:decide ((nb:Int)=(n:Int))=false:=decide_eq_false (by omega);go_wp2_with fail;go_returns;exact ⟨rfl,hB0.trans (hb1.mono hB0.size)⟩
def SolZ (Q:List (List Rat)) (b:List Rat) (n:Nat) (X:Nat->Nat->Rat) (w:World) (e:Ending) (w':World):Prop:=
 ((Zae n 0 0 (Zt (wideB Q b n n)) false 1).2.1 < n/\e=.returned (.tuple #[.slice none 0 0,.int .i64 18])/\Below w.heap.size w w') \/
 ((Zae n 0 0 (Zt (wideB Q b n n)) false 1).2.1=n/\∃ v,e=.returned (.tuple #[v,.int .i64 0])/\Below w.heap.size w w'/\OwnF 45 w' w.heap.size v ((List.range n).map fun j=>X j n))
theorem Zlk (A B:Option Addr) (n c cb:Nat) (rs:List RX) (es:List FX) (w:World) (h:MXL w A n c rs) (hb:FXL w B n cb es) (hs:sqE rs=0) (hv:Zcn es=true) (hn9:n <= 12) (hok:okZ (pw 200) (n+1) n 0 0 (Zt (wideB (qM rs) (es.map FX.q) n n)) 1) (hfin:Zgl (wideB (qM rs) (es.map FX.q) n n) n (n+1)) (hrk:(Zae n 0 0 (Zt (wideB (qM rs) (es.map FX.q) n n)) false 1).2.1 <= n)
    (X:Nat->Nat->Rat) (hX:(Zae n 0 0 (Zt (wideB (qM rs) (es.map FX.q) n n)) false 1).2.1=n->Zfc (fun i j=>(Zaf (Zae n 0 0 (Zt (wideB (qM rs) (es.map FX.q) n n)) false 1).1 i j:Rat)) X n (n+1)) :
    Calls Tryz.prog 26 #[.slice A n c,.slice B n cb] w (SolZ (qM rs) (es.map FX.q) n X w):=by
 have hts:(40:TypeId) ≠ 45:=by decide
 obtain ⟨hE1,hE2⟩:=Zjz hs;obtain ⟨f1,f2,f3,f4,f5⟩:=Zdx hE1;have hl:=h.1;have hQl:(qM rs).length=n:=Zso h;have hQr:=Zv5 h hE1;rw [show n0R rs=n by omega] at hQr;have hF0:=h.good hE1
 have hFb:FL w B n cb (es.map FX.q):=hb.fl (fun e he=>by
  unfold Zcn at hv;rw [List.all_eq_true] at hv;have h1:=hv e he;unfold FX.fine at h1;rw [Bool.and_eq_true] at h1
  exact h1.2)
 obtain ⟨W0,hW0,hB0,q0,s0⟩:=Zbr w 40 #[.slice B n cb];obtain ⟨Q,hQ⟩:∃ Q,qM rs=Q:=⟨_,rfl⟩;obtain ⟨b,hbq⟩:∃ b,es.map FX.q=b:=⟨_,rfl⟩;rw [hQ] at hQl hQr hF0 hok hfin hrk;rw [hbq] at hFb hok hfin hrk;rw [hQ,hbq] at hX;replace hX:=Za hX;unfold SolZ;rw [hQ,hbq]
 have t1:(((n:Int)) != (n:Int))=false:=by simp
 have hn1:1 <= n:=by omega
 replace h:=Za (h.below hB0);replace hs:=Za hs;replace hb:=Za (hb.below hB0);replace hv:=Za hv;replace hF0:=Za (hF0.below hB0);replace hFb:=Za (hFb.below hB0);replace hQr:=Za hQr;replace hok:=Za hok;replace hrk:=Za hrk;replace hfin:=Za hfin;clear f3 f4 f5 hE1 hE2;go_enter Tryz.func26,Tryz.ntmps26;go_wp2_with fail;(try rw [hW0]);refine (Zdf A n c rs W0 h.out 0 hs.out).mono ?_;rintro e w1 ⟨rfl,hb1⟩;have q1:=Zc hb1 q0;have k0:=q1.cell 0
 simp at k0
 go_wp2_with fail;refine (Zgv B n cb es w1 (hb.out.below hb1) true hv.out).mono ?_;rintro e w2 ⟨rfl,hb2⟩;have hB2:Below W0.heap.size W0 w2:=hb1.trans (hb2.mono hb1.size);have q2:=Zc hb2 q1;replace q2:=Za q2;clear k0;go_wp2_with fail
 refine (Ztk 77 (.pointer (some ⟨w.heap.size,0,none⟩)) A n c n 1 Q (fun i=>[b[i]?.getD 0]) w2 (hF0.out.below hB2) (by omega) hQr.out (by omega) (by omega) (by omega) (by omega) (fun i hi=>rfl) (fun x W=>Zo2 _ _ _) (fun W i hbW hi=>Zuy w.heap.size B n cb i b W (by
  have h1:=(q2.out.below hbW q2.out.lt).cell 0
  simpa using h1) ((hFb.out.below hB2).below hbW) hi)).mono ?_
 rintro e w3 ⟨go,L,rfl,hb3,-,hLl,hM3,hLq⟩
 have hwide:L.map RF.q=wideB Q b n n:=by
  rw [hLq];unfold wideB
  refine List.map_congr_left fun j hj=>?_
  rw [if_pos (List.mem_range.1 hj)]
 have hMF:=hM3.mfl hLl (Nat.le_refl n) (by unfold maxLen;omega);rw [hwide] at hMF;have hB3:=hB2.trans (hb3.mono hB2.size)
 have hml:∀ j,j < n->((wideB Q b n n)[j]?.getD []).length=n+1:=fun j hj=>by
  rw [Zj0 hj,if_pos hj,List.length_append,hQr.out j hj];rfl
 replace hMF:=Za hMF;replace hml:=Za hml;replace hB3:=Za hB3;clear hM3 hwide hLq hb3 hB2 hb2 hb1 q1 q2 hLl;go_wp2_with fail
 by_cases hlt:(Zae n 0 0 (Zt (wideB Q b n n)) false 1).2.1 < n
 ·replace hlt:=Za hlt
  refine (Zpx (some ⟨go,0,none⟩) n n (n+1) (wideB Q b n n) w3 hMF.out (by omega) (by omega) (by omega) (by omega) hml.out hok.out hfin.out hlt.out).mono ?_;rintro e w5 ⟨rfl,hb5⟩;have hB5:=hB3.out.trans (hb5.mono hB3.out.size);go_wp2_with fail;go_returns;exact .inl ⟨hlt.out,rfl,hB0.trans (hB5.mono hB0.size)⟩
 ·have hre:Hid ((Zae n 0 0 (Zt (wideB Q b n n)) false 1).2.1=n):=Za (Nat.le_antisymm hrk.out (Nat.not_lt.1 hlt))
  clear hlt;refine (Zpg (some ⟨go,0,none⟩) n n (n+1) (wideB Q b n n) w3 hMF.out (by omega) (by omega) (by omega) (by omega) hml.out hok.out hfin.out hre.out X (hX.out hre.out)).mono ?_;rintro e w5 ⟨gO,L5,rfl,hb5,hgO,hM5,hLq5,-⟩
  have hLl5:L5.length=n:=by rw [<- List.length_map (f:=RF.q),hLq5];unfold Ziw;simp
  have hfl:(L5.map RF.q).flatten=(List.range n).map fun j=>X j n:=by
   rw [hLq5];unfold Ziw;rw [show n+1 - n=1 by omega]
   have:∀ l:List Nat,(l.map fun i=>(List.range 1).map fun c=>X i (n+c)).flatten=l.map fun j=>X j n:=by
    intro l
    induction l with
    | nil=>rfl
    | cons x l ih=>rw [List.map_cons,List.flatten_cons,ih];rfl
   exact this _
  have hfll:(L5.map RF.q).flatten.length=n:=by rw [hfl];simp
  have hB5:=hB3.out.trans (hb5.mono hB3.out.size);replace hM5:=Za hM5;go_wp2_with fail;refine (Znm gO n n L5 w5 hM5.out hLl5 (by omega) (Nat.le_refl _) (by unfold maxLen;omega) (by omega) (by omega)).mono ?_;rintro e w6 ⟨v6,rfl,hb6,hO6⟩;rw [hfl] at hO6;have hB6:=hB0.trans ((hB5.trans (hb6.mono hB5.size)).mono hB0.size);have hO7:=hO6.lower (show w.heap.size <= w5.heap.size from Nat.le_trans hB0.size hB5.size);replace hO7:=Za hO7;go_wp2_with fail;go_returns;exact .inr ⟨hre.out,_,rfl,hB6,hO7.out⟩
theorem Zvf (A B:Option Addr) (n c cb:Nat) (rs:List RX) (es:List FX) (w:World) (h:MXL w A n c rs) (hb:FXL w B n cb es) (hs:sqE rs=0) (hv:Zcn es=true) (hn9:n <= 12) (hok:okZ (pw 200) (n+1) n 0 0 (Zt (wideB (qM rs) (es.map FX.q) n n)) 1) (hfin:Zgl (wideB (qM rs) (es.map FX.q) n n) n (n+1)) (hrk:(Zae n 0 0 (Zt (wideB (qM rs) (es.map FX.q) n n)) false 1).2.1 < n) :
    Calls Tryz.prog 26 #[.slice A n c,.slice B n cb] w fun e w'=>e=.returned (.tuple #[.slice none 0 0,.int .i64 18])/\Below w.heap.size w w':=
 (Zlk A B n c cb rs es w h hb hs hv hn9 hok hfin (by omega) (fun _ _=>0) (fun h=>by omega)).mono fun e w' h=>by
  rcases h with h | h
  ·exact h.2
  ·have:=h.1;omega
theorem Zt5 (A B:Option Addr) (n c cb:Nat) (rs:List RX) (es:List FX) (w:World) (h:MXL w A n c rs) (hb:FXL w B n cb es) (hs:sqE rs=0) (hv:Zcn es=true) (hn9:n <= 12) (hok:okZ (pw 200) (n+1) n 0 0 (Zt (wideB (qM rs) (es.map FX.q) n n)) 1) (hfin:Zgl (wideB (qM rs) (es.map FX.q) n n) n (n+1)) (hrk:(Zae n 0 0 (Zt (wideB (qM rs) (es.map FX.q) n n)) false 1).2.1=n)
    (X:Nat->Nat->Rat) (hX:Zfc (fun i j=>(Zaf (Zae n 0 0 (Zt (wideB (qM rs) (es.map FX.q) n n)) false 1).1 i j:Rat)) X n (n+1)) :
    Calls Tryz.prog 26 #[.slice A n c,.slice B n cb] w fun e w'=>∃ v,e=.returned (.tuple #[v,.int .i64 0])/\Below w.heap.size w w'/\OwnF 45 w' w.heap.size v ((List.range n).map fun j=>X j n):=
 (Zlk A B n c cb rs es w h hb hs hv hn9 hok hfin (by omega) X (fun _=>hX)).mono fun e w' h=>by
  rcases h with h | h
  ·have:=h.1;omega
  ·exact h.2
section
variable {t:TypeId} {w w':World} {g rest:Nat} {qs:List Rat}
end
end Go.Proofs.YtigdclhagmnopaaGreat
