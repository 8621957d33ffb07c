/- Package linear: Inverse. Det, Solve and Inverse of both -/
import Derived.Test.YtaioanjcjijckaaGreatZb47
set_option maxRecDepth 100000
set_option maxHeartbeats 8000000
set_option linter.unusedSimpArgs false
set_option linter.unusedVariables false
namespace Go.Proofs.YtaioanjcjijckaaGreat
open Go.RowKit
attribute [local go_sem] Zf
section
variable {t:TypeId} {w w':World} {g rest:Nat} {qs:List Rat}
end
section
variable {k n m:Nat} {R:List (List Rat)}
def Zrh (k m n:Nat) (R:List (List Rat)):Prop:=
    okZ (pw 200) m n 0 0 (Zbd R) 1/\okR (pw 200) (pw 200) m n 0 0 R/\FineM R n m/\(Zcz n 0 0 (Zbd R) false 1).2.1=(Zbe n 0 0 R false).2.1/\(Zbe n 0 0 R false).2.1 <= n /\
    ((Zbe n 0 0 R false).2.1 < n->Zax n (Zg R)=0) /\
    ((Zbe n 0 0 R false).2.1=n->Zax n (Zg R) ≠ 0/\∃ X:Nat->Nat->Rat,Zld (Zg (Zbe n 0 0 R false).1) X n m/\Zld (fun i j=>(Zbc (Zcz n 0 0 (Zbd R) false 1).1 i j:Rat)) X n m/\SolQ (Zg R) X n m /\
     ∀ i k',(X i k').num.natAbs <= pw ((k * m+k+1) * n)/\(X i k').den <= pw ((k * m+k+1) * n))
theorem SmE.solve (h:SmE k R) (hl:R.length=n) (hn:n <= 900) (hrow:∀ i,i < n->(R[i]?.getD []).length=m) (hnm:n <= m) (h1:(k * m+k+1) * n+k * m < 189) (h2:k < 189) (h3:2 * ((k * m+k+1) * n)+k * m+1 < 400):Zrh k m n R:=by
 unfold Zrh;have hb:=Zmw (b:=k * m+k) n hn;obtain ⟨B,hB⟩:∃ B,Za9 (pw (k * m+k)) n=B:=⟨_,rfl⟩;rw [hB] at hb;obtain ⟨b,hbe⟩:∃ b,(k * m+k+1) * n=b:=⟨_,rfl⟩;rw [hbe] at hb h1 h3 ⊢
 have bb:B * B <= pw (b+b):=by rw [Zci];exact Nat.mul_le_mul hb hb
 have bs:B * pw (k * m) <= pw (b+k * m):=by rw [Zci];exact Nat.mul_le_mul hb (Nat.le_refl _)
 have g1:(n+1) * (B * B) < pw 400:=by
  have h5:n+1 <= pw 1:=by rw [Zaq,Zcw];omega
  have h6:(n+1) * (B * B) <= pw (1+(b+b)):=by rw [Zci];exact Nat.mul_le_mul h5 bb
  exact Nat.lt_of_le_of_lt h6 (Zc4 (by omega))
 have g2:B * B * pw (k * m) < pw 400:=by
  have h6:B * B * pw (k * m) <= pw (b+b+k * m):=by rw [Zci];exact Nat.mul_le_mul bb (Nat.le_refl _)
  exact Nat.lt_of_le_of_lt h6 (Zc4 (by omega))
 have g3:B * pw (k * m) < pw 300:=Nat.lt_of_le_of_lt bs (Zc4 (by omega));have hs:=Zqj (B:=pw (k * m+k)) (S:=pw (k * m)) (Zb2 _) (Zb2 _) R hl hrow (fun i hi=>h.denAt (hrow i hi)) (fun i j hi=>h.whole (hrow i hi) j) hnm (by rw [hB];exact g1) (by rw [hB];exact g2) (by rw [hB];exact g3);rw [hB] at hs;obtain ⟨o1,o2,o3,o4,o5,o6⟩:=hs;have p1:B < pw 200:=Nat.lt_of_le_of_lt hb (Zc4 (by omega));have p2:B * pw (k * m) < pw 200:=Nat.lt_of_le_of_lt bs (Zc4 (by omega));refine ⟨Zks p1 _ _ _ _ _ o1,Zj2 p1 p2 _ _ _ _ o2,⟨fun i t hi ht=>?_,fun i j=>?_⟩,o3,o4,o5,fun hr=>?_⟩
 ·refine Nat.lt_of_le_of_lt (h.denTo i t) (Zc4 ?_)
  have:k * t <= k * m:=Nat.mul_le_mul (Nat.le_refl _) ht;omega
 ·exact Nat.lt_of_le_of_lt (h i j).1 (Zc4 (by omega))
 ·obtain ⟨q1,X,q2,q3,q4,q5⟩:=o6 hr
  exact ⟨q1,X,q2,q3,q4,fun i k'=>⟨Nat.le_trans (q5 i k').1 hb,Nat.le_trans (q5 i k').2 hb⟩⟩
end
section
variable {k n m:Nat} {R:List (List Rat)}
theorem Zq8 (h:SmE k R) (hl:R.length=n) (hrow:∀ i,i < n->(R[i]?.getD []).length=m) (hnm:n <= m) (hp:posP (Zg R) n) {i j:Nat} (hi:i < n) (hj:j < i):Zl (Zg R) i i j=0:=by
 obtain ⟨⟨pc,G,s,h3⟩,h4⟩:=Zhq (B:=pw (k * m+k)) (S:=pw (k * m)) hl hrow (fun i hi=>h.denAt (hrow i hi)) (fun i j hi=>h.whole (hrow i hi) j) i (by omega) (by omega) (hp.mono (by omega));rw [<- h4 i j hi];exact h3.low i j (Nat.le_refl _) hi hj
end
section
variable {k n m:Nat} {R:List (List Rat)}
theorem Zrg (h:SmE k R) (hl:R.length=n) (hrow:∀ i,i < n->(R[i]?.getD []).length=m) (hnm:n <= m) (hp:posP (Zg R) n) {t:Nat} (ht:t <= n) {i:Nat} (j:Nat) (hi:i < n):Zg (Zcl R t) i j=Zl (Zg R) t i j:=
 (Zhq (B:=pw (k * m+k)) (S:=pw (k * m)) hl hrow (fun i hi=>h.denAt (hrow i hi)) (fun i j hi=>h.whole (hrow i hi) j) t ht (by omega) (hp.mono ht)).2 i j hi
theorem Ztk (h:SmE k R) (hl:R.length=n) (hrow:∀ i,i < n->(R[i]?.getD []).length=m) (hnm:n <= m) (hp:posP (Zg R) n):Zbe n 0 0 R false=(Zcl R n,n,false):=
 Zlp (B:=pw (k * m+k)) (S:=pw (k * m)) hl hnm hrow (fun i hi=>h.denAt (hrow i hi)) (fun i j hi=>h.whole (hrow i hi) j) hp n 0 (by omega)
theorem Zr7 (h:SmE k R) (hl:R.length=n) (hn:n <= 900) (hrow:∀ i,i < n->(R[i]?.getD []).length=m) (hnm:n <= m) (h1:(k * m+k+1) * n+k * m < 189) (h2:k < 189) (h3:2 * ((k * m+k+1) * n)+k * m+1 < 400) (hp:posP (Zg R) n) :
    ∃ X:Nat->Nat->Rat,Zld (Zg (Zcl R n)) X n m/\SolQ (Zg R) X n m/\∀ i k',(X i k').num.natAbs <= pw ((k * m+k+1) * n)/\(X i k').den <= pw ((k * m+k+1) * n):=by
 obtain ⟨-,-,-,-,-,-,h4⟩:=h.solve hl hn hrow hnm h1 h2 h3;rw [Ztk h hl hrow hnm hp] at h4;obtain ⟨-,X,h5,-,h6,h7⟩:=h4 rfl;exact ⟨X,h5,h6,h7⟩
theorem Zpa (h:SmE k R) (hl:R.length=n) (hrow:∀ i,i < n->(R[i]?.getD []).length=m) (hnm:n <= m) (hp:posP (Zg R) n) (hA:∀ i k,i < n->k < n->Zg R i k=Zg R k i) {X:Nat->Nat->Rat} (hX:Zld (Zg (Zcl R n)) X n m) {c:Nat} (hc:n <= c) (hcm:c < m) :
    Z4 n (fun i=>Zg R i c * X i c)=Zhr (Zg R) n c:=by
 have he:∀ i j,i < n->Zg (Zcl R n) i j=Zl (Zg R) i i j:=fun i j hi=>by rw [Zrg h hl hrow hnm hp (Nat.le_refl n) j hi,Zfb (by omega)]
 refine dist_eq (y:=fun j=>X j c) hA hp (fun i j hi hj=>Zq8 h hl hrow hnm hp hi hj) (fun i hi=>?_);have h1:=Zjm (E:=Zg (Zcl R n)) (X:=X) (n:=n) (i:=i) (k:=c) hi (fun j hj=>by rw [he i j hi,Zq8 h hl hrow hnm hp hi hj]) (hX.1 i hi) (hX.2.1 i c hi hc hcm);rw [<- he i c hi,<- h1]
 exact Zx fun j _=>by rw [he i j hi]
end
def Zdj (rs:List RX) (es:List FX):Int:=if Zar rs ≠ 0 then Zar rs else if es.length=rs.length/\Zcf es=true then 0 else 8
def Zej (es:List FX) (i:Nat):Rat:=(es.map FX.q)[i]?.getD 0
def Zht (rs:List RX) (es:List FX):Rat:=bil (Zg (qM rs)) rs.length (Zej es) (Zej es)
def DistPost (rs:List RX) (es:List FX) (w:World) (e:Ending) (w':World):Prop:=
 Below w.heap.size w w'/\((Zdj rs es=0/\∃ na A n c nb B m d,e=.returned (.tuple #[.agg #[.bool na,.slice A n c,.bool nb,.slice B m d],.int .i64 0])/\Fr w' na A n c nb B m d (Zht rs es)) \/
  (Zdj rs es ≠ 0/\e=.returned (.tuple #[.agg #[.bool false,.slice none 0 0,.bool false,.slice none 0 0],.int .i64 (Zdj rs es)])))
theorem DistPost.fall {rs:List RX} {es:List FX} {w w':World} {E:Int} (hb:Below w.heap.size w w') (h:Zdj rs es=E) (h0:E ≠ 0):DistPost rs es w (.returned (.tuple #[.agg #[.bool false,.slice none 0 0,.bool false,.slice none 0 0],.int .i64 E])) w':=by
 subst h;exact ⟨hb,.inr ⟨h0,rfl⟩⟩
section
variable {rs:List RX} {es:List FX} {E:Int}
theorem Zez (h:Zar rs=E) (h0:E ≠ 0):Zdj rs es=E:=by subst h;exact if_pos h0
theorem Zd3 (h:Zar rs=0) (hb:¬ (es.length=rs.length/\Zcf es=true)):Zdj rs es=8:=by
 unfold Zdj;rw [if_neg (by simp [h])];exact if_neg hb
theorem Znn (h:Zar rs=0) (hb:es.length=rs.length/\Zcf es=true):Zdj rs es=0:=by
 unfold Zdj;rw [if_neg (by simp [h])];exact if_pos hb
end
theorem Zqh (na:Bool) (A:Option Addr) (n c:Nat) (nb:Bool) (B:Option Addr) (m d:Nat) (w:World):(Instr.field 99 (.agg #[.bool na,.slice A n c,.bool nb,.slice B m d]) 0).run Tryz.prog w=.ok (.agg #[.bool na,.slice A n c,.bool nb,.slice B m d]) w:=by kernel_rfl
theorem Zk7 (A V:Option Addr) (n c nv cv:Nat) (rs:List RX) (es:List FX) (w:World) (h:MXL w A n c rs) (hF:FacC rs) (hv:FXL w V nv cv es) (hS:Zdj rs es=0->Zlv (Zg (qM rs)) rs.length (Zej es)) :
    Calls Tryz.prog 12 #[.slice A n c,.slice V nv cv] w (DistPost rs es w):=by
 have hnl:=Za h.1;have hvl:=Za hv.1;have hnc:=h.2.1;have hcm:=h.2.2.1;have hnc2:=hv.2.1;have hcm2:=hv.2.2.1;unfold maxLen at hcm hcm2;obtain ⟨W0,hW0,hB0,⟨q0,q1⟩,s0⟩:=Zc7 w 29 #[.bool false,.slice none 0 0,.bool false,.slice none 0 0] 30 #[.int .i64 0];have hC:=Za (Zim A n c rs W0 (h.below hB0) hF);have hH:=Za (h.below hB0);have hVH:=Za (hv.below hB0);replace hS:=Za hS;replace q0:=Za q0;replace q1:=Za q1;replace hB0:=Za hB0;clear h hv hF;replace s0:=Za s0
 go_enter_defers Tryz.func12,Tryz.ntmps12
 go_wp2_with fail;(try rw [hW0]);clear hW0;refine hC.out.mono ?_;rintro e w1 ⟨hb1,⟨h0,v1,v2,L0,rfl,hFM⟩ | ⟨h0,rfl⟩⟩
 case inr =>
  have hB1:=hB0.out.trans (hb1.mono hB0.out.size);have k0:=Zc hb1 q0.out;have k1:=Zc hb1 q1.out;obtain ⟨E,hE⟩:∃ E,Zar rs=E:=⟨_,rfl⟩;rw [hE] at h0 ⊢;have hE0:=Za h0;have hPE:=Zez (es:=es) hE h0;replace hE:=Za hE;go_wp2_with fail;refine leaves_cons (f:=52) (args:=#[.pointer (some ⟨w.heap.size+1,0,none⟩)]) (by simp) (by simp [go_sem]) ?_;have e0:=(k1).cell 0
  simp at e0
  refine (Zb7 ⟨w.heap.size+1,0,none⟩ E 0 _ e0 ((k1).frozen 0)).mono ?_;rintro e u' w'' ⟨rfl,rfl,hw⟩;obtain ⟨V,hV,hBV,-,-,hk,sV⟩:=Z5 154 #[.int .i64 E] (hB1) ((hB1).size);obtain ⟨U,hU,hBU,q3,-,kq,-⟩:=Zbu E hBV (Nat.le_succ _) (hk _ _ _ (k1));rw [hV,hU] at hw;subst hw;have r4:=q3.cell 0
  simp at r4
  obtain ⟨d0,d1,d2,d3,-⟩:=(kq _ _ _ (by omega) (hk _ _ _ (k0))).four;exact ⟨.tuple #[.agg #[.bool false,.slice none 0 0,.bool false,.slice none 0 0],.int .i64 E],by simp [results,Tryz.results12,go_sem,r4,d0,d1,d2,d3],DistPost.fall hBU hPE (by first | decide | assumption | exact hE0.out)⟩
 obtain ⟨A1,c1,e1,hM1⟩:=hFM.1.mflA;obtain ⟨A2,c2,e2,hD1⟩:=hFM.2.1.fl;rw [Zcg] at e1 hM1;rw [Zds] at e2 hD1;rw [hnl.out] at e1 hM1 e2 hD1;subst e1;subst e2;have hcap1:=hM1.2.1;have hcap1':=hM1.2.2.1;have hcap2:=hD1.cap;unfold maxLen at hcap1' hcap2;obtain ⟨hcV,hcS,hcP⟩:=Zdx h0
 have hn6:n <= 6:=by rw [<- hnl.out];exact hcV.facts.2.1
 rw [hnl.out] at hcP;have hp:=Za hcP;replace hM1:=Za hM1;replace hD1:=Za hD1;replace h0:=Za h0;have hB1:=Za (hB0.out.trans (hb1.mono hB0.out.size));replace q0:=Za (Zc hb1 q0.out);replace q1:=Za (Zc hb1 q1.out);replace hVH:=Za (hVH.out.below hb1);clear hFM hcV hcS hcP hC hH hB0 hb1 L0;obtain ⟨g1,hg2⟩:∃ g,w1.heap.size=g:=⟨_,rfl⟩;obtain ⟨V3,hV4,q5,hb6⟩:=Zae (w:=w1) 94 #[.slice A1 n c1,.slice A2 n c2];rw [hg2] at q5;replace hM1:=Za (hM1.out.below hb6);replace hD1:=Za (hD1.out.below hb6);replace q0:=Za (Zc hb6 q0.out);replace q1:=Za (Zc hb6 q1.out);replace hVH:=Za (hVH.out.below hb6);have hB7:=Za (hB1.out.trans (hb6.mono hB1.out.size));clear hB1;clear hb6;replace q5:=Za q5
 by_cases hnv:nv=n
 case neg =>
  have t1:((nv:Int) == (n:Int))=false:=by simp;omega
  have t1':decide ((nv:Int)=(n:Int))=false:=decide_eq_false (by omega);have t1'':decide (nv=n)=false:=decide_eq_false hnv;have hPE:=Za (Zd3 (es:=es) h0.out (fun hh=>hnv (by rw [<- hvl.out,<- hnl.out];exact hh.1)));replace hnv:=Za hnv;go_wp2_with fail;(try rw [hg2]);(try rw [hV4]);clear hV4;replace hg2:=Za hg2;refine (Zbl 8 V3).mono ?_;rintro e w6 ⟨rfl,rfl⟩;go_wp2_with fail;refine leaves_cons (f:=52) (args:=#[.pointer (some ⟨w.heap.size+1,0,none⟩)]) (by simp) (by simp [go_sem]) ?_;have e0:=(q1.out).cell 0
  simp at e0
  refine (Zb7 ⟨w.heap.size+1,0,none⟩ 8 0 _ e0 ((q1.out).frozen 0)).mono ?_;rintro e u' w'' ⟨rfl,rfl,hw⟩;obtain ⟨V,hV,hBV,-,-,hk,sV⟩:=Z5 154 #[.int .i64 8] (hB7.out) ((hB7.out).size);obtain ⟨U,hU,hBU,q3,-,kq,-⟩:=Zbu 8 hBV (Nat.le_succ _) (hk _ _ _ (q1.out));rw [hV,hU] at hw;subst hw;have r4:=q3.cell 0
  simp at r4
  obtain ⟨d0,d1,d2,d3,-⟩:=(kq _ _ _ (by omega) (hk _ _ _ (q0.out))).four;exact ⟨.tuple #[.agg #[.bool false,.slice none 0 0,.bool false,.slice none 0 0],.int .i64 8],by simp [results,Tryz.results12,go_sem,r4,d0,d1,d2,d3],DistPost.fall hBU hPE.out (by first | decide | assumption | exact hE0.out)⟩
 subst hnv
 have t1:((nv:Int) == (nv:Int))=true:=by simp
 obtain ⟨b,hb⟩:∃ b,Zcf es=b:=⟨_,rfl⟩;have hCv:=Za (fun W1 (hx:FXL W1 V nv cv es)=>Ziu V nv cv es W1 hx b hb);replace hb:=Za hb;go_wp2_with fail;(try rw [hg2]);(try rw [hV4]);clear hV4;replace hg2:=Za hg2;refine (hCv.out V3 hVH.out).mono ?_;rintro e w8 ⟨rfl,hb9⟩;replace hM1:=Za (hM1.out.below hb9);replace hD1:=Za (hD1.out.below hb9);replace q0:=Za (Zc hb9 q0.out);replace q1:=Za (Zc hb9 q1.out);replace hVH:=Za (hVH.out.below hb9);replace q5:=Za (Zc hb9 q5.out);have hB9:=Za (hB7.out.trans (hb9.mono hB7.out.size));clear hB7;clear hb9
 cases b with
 | false =>
  have hPE:=Za (Zd3 (es:=es) h0.out (fun hh=>by rw [hb.out] at hh;exact absurd hh.2 (by decide)));go_wp2_with fail;refine (Zbl 8 w8).mono ?_;rintro e w6 ⟨rfl,rfl⟩;go_wp2_with fail;refine leaves_cons (f:=52) (args:=#[.pointer (some ⟨w.heap.size+1,0,none⟩)]) (by simp) (by simp [go_sem]) ?_;have e0:=(q1.out).cell 0
  simp at e0
  refine (Zb7 ⟨w.heap.size+1,0,none⟩ 8 0 _ e0 ((q1.out).frozen 0)).mono ?_;rintro e u' w'' ⟨rfl,rfl,hw⟩;obtain ⟨V,hV,hBV,-,-,hk,sV⟩:=Z5 154 #[.int .i64 8] (hB9.out) ((hB9.out).size);obtain ⟨U,hU,hBU,q3,-,kq,-⟩:=Zbu 8 hBV (Nat.le_succ _) (hk _ _ _ (q1.out));rw [hV,hU] at hw;subst hw;have r4:=q3.cell 0
  simp at r4
  obtain ⟨d0,d1,d2,d3,-⟩:=(kq _ _ _ (by omega) (hk _ _ _ (q0.out))).four;exact ⟨.tuple #[.agg #[.bool false,.slice none 0 0,.bool false,.slice none 0 0],.int .i64 8],by simp [results,Tryz.results12,go_sem,r4,d0,d1,d2,d3],DistPost.fall hBU hPE.out (by first | decide | assumption | exact hE0.out)⟩
 | true =>
  have hPE:=Za (Znn (es:=es) h0.out ⟨by rw [hvl.out,hnl.out],hb.out⟩);have hSS:=Za (hS.out hPE.out);have hFV:=Za (hVH.out.fl (Zkr hb.out));clear hS;clear hVH;go_wp2_with fail;refine (Zcu 8 w8).mono ?_;rintro e w6 ⟨rfl,rfl⟩;have ha0:=q5.out.cell 0;have ha1:=q5.out.cell 1
  simp at ha0 ha1
  have hSn:Hid (Zlv (Zg (qM rs)) nv (fun i:Nat=>(es.map FX.q)[i]?.getD 0)):=Za (by have h9:=hSS.out;rw [hnl.out] at h9;exact h9);go_wp2_with fail;clear ha0 ha1;refine (Ztf A1 A2 V nv c1 c2 cv (Zg (qM rs)) (es.map FX.q) w6 hn6 hM1.out hD1.out hFV.out hp.out hSn.out).mono ?_;rintro e w10 ⟨hbd,dn,dA,dk,dc,dm,dB,dj,dd,rfl,df⟩;replace hM1:=Za (hM1.out.below hbd);replace hD1:=Za (hD1.out.below hbd);replace q0:=Za (Zc hbd q0.out);replace q1:=Za (Zc hbd q1.out);replace q5:=Za (Zc hbd q5.out);replace hFV:=Za (hFV.out.below hbd);have hB11:=Za (hB9.out.trans (hbd.mono hB9.out.size));clear hB9;clear hbd;replace df:=Za df;obtain ⟨x0,x1,x2,x3,f0,f1,f2,f3⟩:=q0.out.four;obtain ⟨W5,hW5,hB5,q5,kW,kB,s5⟩:=Zv dn dA dk dc dm dB dj dd hB11.out (Nat.le_refl _) q0.out;have q15:=kB _ _ _ (by omega) q1.out
  have df5:Hid (Fr W5 dn dA dk dc dm dB dj dd (Zht rs es)):=Za (by
   have h9:Fr W5 dn dA dk dc dm dB dj dd (bil (Zg (qM rs)) nv (Zej es) (Zej es)):=⟨kW _ _ _ _ _ df.out.1,kW _ _ _ _ _ df.out.2⟩;unfold Zht
   rw [hnl.out];exact h9)
  have e0:=q15.cell 0;have z0:=q15.frozen 0
  simp at e0
  obtain ⟨U,hU,hBU,q3,kW2,kB2,-⟩:=Zbu 0 hB5 (Nat.le_succ _) q15;have r4:=q3.cell 0
  simp at r4
  obtain ⟨y0,y1,y2,y3,-⟩:=(kB2 _ _ _ (by omega) q5).four;have df6:Hid (Fr U dn dA dk dc dm dB dj dd (Zht rs es)):=Za ⟨kW2 _ _ _ _ _ df5.out.1,kW2 _ _ _ _ _ df5.out.2⟩;clear kW kB s5 kW2 kB2 df df5 hFV hM1 hD1;have hfd:=Zqh dn dA dk dc dm dB dj dd;go_wp2_with fail;(try rw [hW5]);(try rw [hU]);refine leaves_cons (f:=52) (args:=#[.pointer (some ⟨w.heap.size+1,0,none⟩)]) (by simp) (by simp [go_sem]) ?_;refine (Zf6 _ _).mono ?_;rintro e u' w'' ⟨rfl,rfl,rfl⟩;exact ⟨.tuple #[.agg #[.bool dn,.slice dA dk dc,.bool dm,.slice dB dj dd],.int .i64 0],by simp [results,Tryz.results12,go_sem,r4,y0,y1,y2,y3],hBU,.inl ⟨hPE.out,_,_,_,_,_,_,_,_,rfl,df6.out⟩⟩
def LeN (k:Nat) (q:Rat):Prop:=q.num.natAbs <= pw k/\q.den <= pw k
def Zjy (A:Nat->Nat->Rat) (x:Nat->Rat) (n:Nat):List (List Rat):=(List.range (n+1)).map fun i=>(List.range (n+1)).map fun k=>brd A x n i k
section
variable {A:Nat->Nat->Rat} {x:Nat->Rat} {n k:Nat}
theorem Zn3:(Zjy A x n).length=n+1:=by simp [Zjy]
theorem Zor {i:Nat} (hi:i < n+1):((Zjy A x n)[i]?.getD []).length=n+1:=by
 unfold Zjy;rw [List.getElem?_map,List.getElem?_range hi];simp
theorem Zq4 {i j:Nat} (hi:i < n+1) (hj:j < n+1):Zg (Zjy A x n) i j=brd A x n i j:=by
 unfold Zg Zjy;rw [List.getElem?_map,List.getElem?_range hi,Option.map_some,Option.getD_some,List.getElem?_map,List.getElem?_range hj];rfl
theorem brdR_sm (hA:∀ i j,i < n->j < n->LeN k (A i j)) (hx:∀ i,i < n->LeN k (x i)):SmE k (Zjy A x n):=fun i j=>by
 have h0:LeN k 0:=⟨Nat.zero_le _,Zb2 _⟩
 by_cases hi:i < n+1
 ·by_cases hj:j < n+1
  ·rw [Zq4 hi hj]
   unfold brd
   by_cases h1:i < n
   ·rw [if_pos h1]
    by_cases h2:j < n
    ·rw [if_pos h2];exact hA i j h1 h2
    ·rw [if_neg h2];exact hx i h1
   ·rw [if_neg h1]
    by_cases h2:j < n
    ·rw [if_pos h2];exact hx j h2
    ·rw [if_neg h2];exact h0
  ·unfold Zg
   rw [List.getElem?_eq_none (by rw [Zor hi];omega)];exact h0
 ·unfold Zg
  rw [List.getElem?_eq_none (l:=Zjy A x n) (by rw [Zn3];omega)];exact h0
theorem Zji {t i j:Nat} (ht:t <= n+1) (hi:i < n+1) (hj:j < n+1):Zl (Zg (Zjy A x n)) t i j=Zl (brd A x n) t i j:=
 Zb0 (n:=n+1) (m:=n+1) (fun _ _ hi hk=>Zq4 hi hk) (Nat.le_refl _) t i j ht hi hj
theorem Zu0 (hp:posP A n) {t:Nat} (ht:t <= n):posP (Zg (Zjy A x n)) t:=fun s hs=>by
 have e:dQ (Zg (Zjy A x n)) s=dQ (brd A x n) s:=Zji (by omega) (by omega) (by omega);rw [e,Zod x (by omega)];exact hp s (by omega)
theorem Zto (hn:n <= 6) (hA:∀ i j,i < n->j < n->LeN 7 (A i j)) (hx:∀ i,i < n->LeN 7 (x i)) (hp:posP A n) {t i:Nat} (ht:t <= n) (hi:i < n+1):SmN 400 449 (Zl (brd A x n) t i n):=by
 have h:=(brdR_sm hA hx).red2 Zn3 (by omega) (fun i hi=>Zor hi) (t:=t) (by omega) (by omega) (Zu0 hp ht) hi n;rw [Zji (by omega) hi (by omega)] at h;have h1:(7 * (n+1)+7+1) * (n+1) <= 399:=Nat.le_trans (Nat.mul_le_mul (show 7 * (n+1)+7+1 <= 57 by omega) (show n+1 <= 7 by omega)) (by decide);exact h.mono (by omega) (by omega)
theorem Zp0 (hn:n <= 6) (hF:FacP A n) (hA:∀ i j,i < n->j < n->LeN 7 (A i j)) (hx:∀ i,i < n->LeN 7 (x i)) (hp:posP A n):Zlv A n x:=by
 have hs:=fun t i ht hi=>Zto (t:=t) (i:=i) hn hA hx hp ht hi
 have hsum:∀ t,t <= n->Z4 t (fun s=>zV A n x s * zV A n x s / dQ A s)=- Zl (brd A x n) t n n:=fun t ht=>by
  have h:=Zri hF.sym x t ht;rw [h];rw [Zx (g:=fun s=>Zl (brd A x n) s s n * Zl (brd A x n) s s n / dQ (brd A x n) s) (fun s hs=>by rw [Zod x (by omega)];rfl)]
  grind
 have hneg:∀ t,t <= n->SmN 400 449 (- Zl (brd A x n) t n n):=fun t ht=>by
  have h:=hs t n ht (by omega);exact ⟨by rw [Rat.neg_num,Int.natAbs_neg];exact h.1,by rw [Rat.neg_den];exact h.2⟩
 refine ⟨fun t i hti hi=>(hs t i (by omega) (by omega)).sm (by decide) (by decide),fun i t hti hi=>(hF.l i t (by omega) hi (hp.mono (by omega))).sm (by decide) (by decide),fun i t hti hi=>?_,fun i hi=>((hs i i (by omega) (by omega)).mulN (hs i i (by omega) (by omega))).sm (by decide) (by decide),fun i hi=>(hF.d hi (hp.mono (by omega))).sm (by decide) (by decide),fun i hi=>?_,fun i hi=>?_⟩
 ·have h:=Zln (A:=A) (x:=x) hti hi
  have e:lQ A i t * Zl (brd A x n) t t n=Zl (brd A x n) t i n - Zl (brd A x n) (t+1) i n:=by
   rw [h];show lQ A i t * zV A n x t=_
   grind
  rw [e];exact ((hs t i (by omega) (by omega)).sub (hs (t+1) i (by omega) (by omega))).sm (by decide) (by decide)
 ·have h1:=hsum i (by omega)
  have h2:=hsum (i+1) (by omega);have h3:Z4 (i+1) (fun s=>zV A n x s * zV A n x s / dQ A s)=Z4 i (fun s=>zV A n x s * zV A n x s / dQ A s)+zV A n x i * zV A n x i / dQ A i:=rfl
  have e:zV A n x i * zV A n x i / dQ A i=- Zl (brd A x n) (i+1) n n - - Zl (brd A x n) i n n:=by
   rw [<- h1,<- h2,h3];grind
  rw [e];exact ((hneg (i+1) (by omega)).sub (hneg i (by omega))).sm (by decide) (by decide)
 ·rw [hsum i hi]
  exact (hneg i hi).sm (by decide) (by decide)
end
section
variable {R:List (List Rat)} {n k:Nat}
theorem Zgi (hl:R.length=n):∀ t i j,n <= i->Zl (Zg R) t i j=0
 | 0,i,j,hi=>by
  show Zg R i j=0;unfold Zg;rw [List.getElem?_eq_none (l:=R) (by omega)];rfl
 | t+1,i,j,hi=>by
  show (if t < i then _ else _)=(0:Rat);rw [Zgi hl t i j hi,Zgi hl t i t hi]
  split
  ·grind
  ·rfl
theorem Zp5 (h:SmE k R) (hl:R.length=n) (hn:n <= 900) (hrow:∀ i,i < n->(R[i]?.getD []).length=n+1) (h1:(k * (n+1)+k+1) * n+k * (n+1) < 189) (h2:k < 189) (h3:2 * ((k * (n+1)+k+1) * n)+k * (n+1)+1 < 400) (hp:posP (Zg R) n) (hA:∀ i k,i < n->k < n->Zg R i k=Zg R k i) :
    ∃ X:Nat->Nat->Rat,Zrf (fun i j=>Zl (Zg R) i i j) X n/\(∀ i,LeN ((k * (n+1)+k+1) * n) (X i n))/\Z4 n (fun i=>Zg R i n * X i n)=Zhr (Zg R) n n:=by
 obtain ⟨X,hD,-,hs⟩:=Zr7 h hl hn hrow (Nat.le_succ n) h1 h2 h3 hp
 have hE:∀ i j,i < n->Zg (Zcl R n) i j=Zl (Zg R) i i j:=fun i j hi=>by
  rw [Zrg h hl hrow (Nat.le_succ n) hp (Nat.le_refl n) j hi,Zfb (by omega)]
 have hU:∀ i t,i < n->upS (fun i j=>Zl (Zg R) i i j) X i n t=upS (Zg (Zcl R n)) X i n t:=fun i t hi=>by
  unfold upS;rw [hE i n hi]
  congr 1
  exact Zx fun j _=>by rw [hE i j hi]
 refine ⟨X,⟨fun i hi=>?_,fun i=>hD.2.2.2.1 i n,fun i t=>?_⟩,fun i=>hs i n,Zpa h hl hrow (Nat.le_succ n) hp hA hD (Nat.le_refl n) (Nat.lt_succ_self n)⟩
 ·rw [hU i n hi]
  show X i n=upS (Zg (Zcl R n)) X i n n / Zl (Zg R) i i i;rw [<- hE i i hi];exact hD.2.1 i n hi (Nat.le_refl n) (Nat.lt_succ_self n)
 ·rcases Nat.lt_or_ge i n with hi | hi
  ·rw [hU i t hi];exact hD.2.2.2.2 i n t
  ·have e:upS (fun i j=>Zl (Zg R) i i j) X i n t=0:=by
     show Zl (Zg R) i i n - Z4 t (fun j=>if i < j then Zl (Zg R) i i j * X j n else 0)=0;rw [Zgi hl i i n hi]
     have h9:Z4 t (fun j=>if i < j then Zl (Zg R) i i j * X j n else 0)=0:=by
      induction t with
      | zero=>rfl
      | succ t ih =>
       simp only [Z4];rw [ih,Zgi hl i i t hi]
       split <;> grind
     rw [h9];grind
   rw [e];exact SmN.zeroC 399 399
end
end Go.Proofs.YtaioanjcjijckaaGreat
