/- Package linear: Posdef. How great the numbers of the -/
import Derived.Test.YtigdclhagmnopaaGreatZq32
set_option maxRecDepth 100000
set_option maxHeartbeats 8000000
set_option linter.unusedSimpArgs false
set_option linter.unusedVariables false
namespace Go.Proofs.YtigdclhagmnopaaGreat
open Go.RowKit
attribute [local go_sem] Zh
def Znl (Q:List (List Rat)) (n:Nat):Prop:=okZ (pw 200) n n 0 0 (Zt Q) 1/\Zgl Q n n/\(∀ k,k <= n->byZ Q k < pw 4096)/\(Zed Q).natAbs < pw 4096/\Rat.divInt (Zed Q) (byZ Q n)=Zhy Q
theorem cmpQ_eq0 {a b:Rat}:Zh0 a b=0 ↔ a=b:=by
 unfold Zh0
 by_cases h:a=b
 ·simp [h]
 ·constructor
  ·intro h1
   exfalso
   split at h1
   ·exact absurd h1 (by decide)
   ·split at h1
    ·exact absurd h1 (by decide)
    ·rename_i h2 h3
     exact h (Rat.le_antisymm (Rat.not_lt.1 h3) (Rat.not_lt.1 h2))
  ·intro h1;exact absurd h1 h
theorem Zn0 (A:Option Addr) (n c:Nat) (rs:List RX) (w:World) (h:MXL w A n c rs) (hE:sqE rs=0) (h5:n <= 900) (hok:∀ j,j < n->Znl (Zfk (qM rs) (j+1)) (j+1)) (hsm:∀ i j,Sm (Zn (qM rs) i j)) :
    Calls Tryz.prog 13 #[.slice A n c] w fun e w'=>e=.returned (.tuple #[.bool (pdB (qM rs)),.int .i64 0])/\Below w.heap.size w w':=by
 obtain ⟨iS,ki,kz0,kz1,kz2⟩:=info_parts Zjm
 have hmx:Tryz.prog.follows .mixedOrders=true:=by kernel_rfl
 obtain ⟨hE1,hE2⟩:=Zjz hE;obtain ⟨f1,f2,f3,f4,-⟩:=Zdx hE1;have hl:=h.1
 have hn0:0 < n:=by omega
 have hn0R:n0R rs=n:=by omega
 have hQl:=Za (Zso h);obtain ⟨pd,hpd⟩:∃ b,pdB (qM rs)=b:=⟨_,rfl⟩;rw [hpd];replace hpd:=Za hpd;have hrow:=Za (fun (W:World) (hb:Below w.heap.size w W) (k:Nat) (hk:k < n)=>(h.below hb).gat hE1 hk);have hpart:=Za (fun (W:World) (hb:Below w.heap.size w W) (v:Value) (j:Nat) (hj:j <= n) (hR:RowS 40 W w.heap.size v (Zg4 rs j j))=>Zvr (h.below hb) hE1 hj (by omega) hR);obtain ⟨g0,o0,r00,hA,-,-,-,-⟩:=h.gat hE1 hn0;subst hA;replace h:=Za h;replace hok:=Za hok;replace hsm:=Za hsm;replace hE1:=Za hE1;replace hn0R:=Za hn0R;clear f1 f2 f3 f4 hE2 r00;have hcap:n <= c:=h.out.2.1;have hcm:c <= maxLen:=h.out.2.2.1;unfold maxLen at hcm;go_enter Tryz.func13,Tryz.ntmps13;go_wp2_with fail;refine (Zdf _ n c rs w h.out 0 hE).mono ?_;rintro e w1 ⟨rfl,hb1⟩;replace hE:=Za hE;go_wp2_with fail
 go_loopg [21] n (fun k iv wr=>∃ i:Nat,i+k=n/\iv=.int .i64 i/\Hid (∀ a,a < i->∀ b,b < a->Zn (qM rs) a b=Zn (qM rs) b a)/\Below w.heap.size w wr)
 case atStart=>exact ⟨0,by omega,rfl,Za (fun a ha=>by omega),hb1⟩
 case round =>
  obtain ⟨i,hik,rfl,hsy,hB⟩:=hrel
  cases gk with
  | zero =>
   obtain rfl:i=n:=by omega
   have t1:decide ((i:Int) < (i:Int))=false:=by simp
   go_wp2_with fail
   go_loopg [52] i (fun k iv wr=>∃ j:Nat,j+k=i/\iv=.int .i64 j/\Hid (∀ t,t < j->0 < Zhy (Zfk (qM rs) (t+1)))/\Below w.heap.size w wr)
   case atStart=>exact ⟨0,by omega,rfl,Za (fun t ht=>by omega),hB⟩
   case round =>
    obtain ⟨j,hjk,rfl,hdt,hB2⟩:=hrel
    cases gk with
    | zero =>
     obtain rfl:j=i:=by omega
     have t2:decide ((j:Int) < (j:Int))=false:=by simp
     have hpt:pd=true:=by rw [<- hpd.out];exact Zw3 (by rw [hQl.out];exact hsy.out) (fun t ht=>hdt.out t (by rw [hQl.out] at ht;omega))
     subst hpt;go_wp2_with fail;go_returns;exact ⟨rfl,hB2⟩
    | succ gk' =>
     obtain rfl:gk'=i - (j+1):=by omega
     have hji:j < i:=by omega
     have t2:decide ((j:Int) < (i:Int))=true:=decide_eq_true (by omega)
     have e1:IntKind.i64.wrap ((j:Int)+1)=((j+1:Nat):Int):=by rw [IntKind.wrap_i64];omega
     have s1:(0:Int) <= ((j+1:Nat):Int):=by omega
     have s2:((j+1:Nat):Int) <= (c:Int):=by omega
     have s3:j+1 <= c:=by omega
     go_wp2_with fail
     go_loopg [60,10] (j+1) (fun k iv pv wr=>∃ t:Nat,t+k=j+1/\iv=.int .i64 t/\RowS 40 wr w.heap.size pv (Zg4 rs (j+1) t)/\Below w.heap.size w wr)
     case atStart=>exact ⟨0,by omega,rfl,.inl ⟨rfl,by simp [Zg4]⟩,hB2⟩
     case round =>
      obtain ⟨t,htk,rfl,hR,hB3⟩:=hrel
      cases gk with
      | zero =>
       obtain rfl:t=j+1:=by omega
       have t3:decide (((j+1:Nat):Int) < ((j+1:Nat):Int))=false:=by simp
       have t3':decide ((j:Int)+1 < (j:Int)+1)=false:=by simp
       obtain ⟨A2,c2,hpv,hMF⟩:=hpart.out wr hB3 _ (j+1) (by omega) hR;subst hpv
       have hrowl:Hid (∀ a,a < j+1->((Zfk (qM rs) (j+1))[a]?.getD []).length=j+1):=Za (fun a ha=>by
        obtain ⟨_,_,r,_,_,_,hf,hrn⟩:=hrow.out wr hB3 a (by omega);have:=hf.len
        rw [Zlr ha (by rw [hQl.out];omega),List.length_take,this,hrn,hn0R.out];omega)
       clear hR;go_wp2_with fail;refine (Zs9 A2 (j+1) c2 _ wr hMF (by omega) (by omega) hrowl.out (hok.out j hji).1 (hok.out j hji).2.1 (hok.out j hji).2.2.1 (hok.out j hji).2.2.2.1).mono ?_;rw [(hok.out j hji).2.2.2.2];rintro e w3 ⟨hb3,n1,A1,k1,c1,m1,B1,j1,d1,rfl,hf3⟩;obtain ⟨gd,hgd⟩:∃ g,w3.heap.size=g:=⟨_,rfl⟩;obtain ⟨V,hV,hBV,qv,kW,kB,sV⟩:=Zr 45 #[.bool n1,.slice A1 k1 c1,.bool m1,.slice B1 j1 d1] hb3 hb3.size;have hf4:=Fr.keep hf3 kW;have hps:=hf4.pos_iff;have hk1:=hf4.1.2.1;rw [hgd] at qv;have hB4:=Za (hB3.trans (hBV.mono hB3.size));clear kW kB hf3 hMF hrowl hB3 hb3;obtain ⟨y0,y1,y2,y3,-⟩:=qv.four
       by_cases hpos:0 < Zhy (Zfk (qM rs) (j+1))
       case neg =>
        have hpt:pd=false:=by rw [<- hpd.out];exact Zs6 (j:=j) (by rw [hQl.out];omega) hpos
        subst hpt
        have hnp:¬ (n1=false/\k1 ≠ 0):=fun e=>hpos (hps.1 e)
        replace hpos:=Za hpos;clear hps
        cases n1 with
        | true =>
         clear hnp;go_wp2_with fail;(try rw [hV]);go_wp2_with fail;go_returns;exact ⟨rfl,hB4.out⟩
        | false =>
         have hk0:k1=0:=Classical.byContradiction fun e=>hnp ⟨rfl,e⟩
         have t4:((k1:Int) == 0)=true:=by simp [hk0]
         replace hk0:=Za hk0;clear hnp;go_wp2_with fail;(try rw [hV]);go_wp2_with fail;refine (Zjw false A1 k1 c1 V (Nat.le_trans hk1 (by decide)) true t4).mono ?_;rintro e w6 ⟨rfl,hb6⟩;have hB6:=hB4.out.trans (hb6.mono hB4.out.size);go_wp2_with fail;go_returns;exact ⟨rfl,hB6⟩
       obtain ⟨hn1,hk0⟩:=hps.2 hpos;subst hn1
       have t4:((k1:Int) == 0)=false:=by simp;omega
       replace hk0:=Za hk0
       have hdt2:Hid (∀ s,s < j+1->0 < Zhy (Zfk (qM rs) (s+1))):=Za (fun s hs=>by
        by_cases he:s=j
        ·rw [he];exact hpos
        ·exact hdt.out s (by omega))
       replace hpos:=Za hpos;clear hps;go_wp2_with fail;(try rw [hV]);go_wp2_with fail;refine (Zjw false A1 k1 c1 V (Nat.le_trans hk1 (by decide)) false t4).mono ?_;rintro e w6 ⟨rfl,hb6⟩;have hB6:=hB4.out.trans (hb6.mono hB4.out.size);go_wp2_with fail
       go_roundg (i - (j+1))
       case measure=>omega
       case rel=>exact ⟨j+1,by omega,by go_num,hdt2,hB6⟩
      | succ gk' =>
       obtain rfl:gk'=j+1 - (t+1):=by omega
       have htj:t < j+1:=by omega
       have t3:decide ((t:Int) < ((j+1:Nat):Int))=true:=decide_eq_true (by omega);have t3':decide ((t:Int) < (j:Int)+1)=true:=decide_eq_true (by omega)
       have bt:(t:Int) < ((j+1:Nat):Int):=by omega
       have bt':(t:Int) < (j:Int)+1:=by omega
       obtain ⟨g,o,r,hA,hre,k0,hF,hrn⟩:=hrow.out wr hB3 t (by omega)
       cases hA
       have hc2:=hF.cap;rw [hrn,hn0R.out] at hc2;rw [hrn,hn0R.out] at k0;unfold maxLen at hc2
       have b1:((j+1:Nat):Int) <= (r.c:Int):=by omega
       have b1':(j:Int)+1 <= (r.c:Int):=by omega
       have b2:j+1 <= r.c:=by omega
       have hll:(Zg4 rs (j+1) t).length+1 <= 1000:=by rw [Znb (by omega)];omega
       have hbA:Below wr.heap.size wr (wr.alloc (.cells #[.slice r.A (j+1) r.c] 40)):=(Below.refl _ _).alloc (Nat.le_refl _) _;have hown:=hR.kept hbA;have hRA:=Zuj wr r.A (j+1) r.c 40;have hbs:w.heap.size <= (wr.alloc (.cells #[.slice r.A (j+1) r.c] 40)).heap.size:=Nat.le_trans hB3.size hbA.size;have hsu:=Za (Zq9 (j:=j+1) hre);have hB4:=Za (hB3.trans (hbA.mono hB3.size));clear hF hre hbA;go_wp2_with (at_builtin;refine Zjl _ rfl (.tmp 64) (.tmp 69) 22 rfl w.heap.size 40 iS Tryz.underlying22 ki kz0 kz1 kz2 _ _ rfl hown _ _ 1 1 [⟨r.A,j+1,r.c⟩] rfl hRA rfl hll hbs ?_;intro v5 w5 hO5 hg5 hk5);rw [hsu.out] at hO5;have hB5:=hB4.out.grown hg5 hbs (fun k hk=>hown.row_ge k hk)
       go_roundg (j+1 - (t+1))
       case measure=>omega
       case rel=>exact ⟨t+1,by omega,by go_num,hO5,hB5⟩
  | succ gk' =>
   obtain rfl:gk'=n - (i+1):=by omega
   have hin:i < n:=by omega
   have t1:decide ((i:Int) < (n:Int))=true:=decide_eq_true (by omega)
   have bi:(i:Int) < (n:Int):=by omega
   go_wp2_with fail
   go_loopg [25] i (fun k iv wr=>∃ j:Nat,j+k=i/\iv=.int .i64 j/\Hid (∀ b,b < j->Zn (qM rs) i b=Zn (qM rs) b i)/\Below w.heap.size w wr)
   case atStart=>exact ⟨0,by omega,rfl,Za (fun b hb=>by omega),hB⟩
   case round =>
    clear hB;obtain ⟨j,hjk,rfl,hsj,hB⟩:=hrel
    cases gk with
    | zero =>
     obtain rfl:j=i:=by omega
     have t2:decide ((j:Int) < (j:Int))=false:=by simp
     have hsy2:Hid (∀ a,a < j+1->∀ b,b < a->Zn (qM rs) a b=Zn (qM rs) b a):=Za (fun a ha b hb=>by
      by_cases he:a=j
      ·subst he;exact hsj.out b hb
      ·exact hsy.out a (by omega) b hb)
     go_wp2_with fail
     go_roundg (n - (j+1))
     case measure=>omega
     case rel=>exact ⟨j+1,by omega,by go_num,hsy2,hB⟩
    | succ gk' =>
     obtain rfl:gk'=i - (j+1):=by omega
     have hji:j < i:=by omega
     have t2:decide ((j:Int) < (i:Int))=true:=decide_eq_true (by omega)
     have bj:(j:Int) < (n:Int):=by omega
     obtain ⟨g,o,r,hA,-,k0,hF,hrn⟩:=hrow.out wr hB i hin
     cases hA
     obtain ⟨g,o,r',hA,-,k0',hF',hrn'⟩:=hrow.out wr hB j (by omega)
     cases hA
     rw [hn0R.out] at hrn hrn';obtain ⟨g1,o1,n1,A1,k1,c1,m1,B1,j1,d1,hA1,⟨p0,p1,p2,p3⟩,hf1⟩:=hF.at_ (k:=j) (by omega);obtain ⟨g2,o2,n2,A2,k2,c2,m2,B2,j2,d2,hA2,⟨q0,q1,q2,q3⟩,hf2⟩:=hF'.at_ (k:=i) (by omega);have hc1:=hF.cap;have hc2:=hF'.cap;rw [hrn] at hc1;rw [hrn'] at hc2;unfold maxLen at hc1 hc2;rw [hrn,hA1] at k0;rw [hrn',hA2] at k0';have hf1:Fr wr n1 A1 k1 c1 m1 B1 j1 d1 (Zn (qM rs) i j):=hf1;have hf2:Fr wr n2 A2 k2 c2 m2 B2 j2 d2 (Zn (qM rs) j i):=hf2;obtain ⟨rc,hrc⟩:∃ x,r.c=x:=⟨_,rfl⟩;obtain ⟨rc',hrc'⟩:∃ x,r'.c=x:=⟨_,rfl⟩;rw [hrc] at k0 hc1;rw [hrc'] at k0' hc2;obtain ⟨s,hs⟩:∃ s,Zh0 (Zn (qM rs) i j) (Zn (qM rs) j i)=s:=⟨_,rfl⟩;have sc1:=hsm.out i j;have sc2:=hsm.out j i;replace hrc:=Za hrc;replace hrc':=Za hrc';replace hs:=Za hs;clear hF hF' hrn hrn' hA1 hA2;go_wp2_with fail
     have hSv9:Hid (∀ wx,Below wr.heap.size wr wx->wx.cell? ⟨g0,o0+i,none⟩=some (.slice (some ⟨g1,o1,none⟩) n rc)/\wx.cell? ⟨g1,o1+j * 4,none⟩=some (.bool n1)/\wx.cell? ⟨g1,o1+j * 4+1,none⟩=some (.slice A1 k1 c1)/\wx.cell? ⟨g1,o1+j * 4+2,none⟩=some (.bool m1)/\wx.cell? ⟨g1,o1+j * 4+3,none⟩=some (.slice B1 j1 d1)/\wx.cell? ⟨g0,o0+j,none⟩=some (.slice (some ⟨g2,o2,none⟩) n rc')/\wx.cell? ⟨g2,o2+i * 4,none⟩=some (.bool n2)/\wx.cell? ⟨g2,o2+i * 4+1,none⟩=some (.slice A2 k2 c2)/\wx.cell? ⟨g2,o2+i * 4+2,none⟩=some (.bool m2)/\wx.cell? ⟨g2,o2+i * 4+3,none⟩=some (.slice B2 j2 d2)):=Za (fun wx hbx=>⟨Zb hbx k0,Zb hbx p0,Zb hbx p1,Zb hbx p2,Zb hbx p3,Zb hbx k0',Zb hbx q0,Zb hbx q1,Zb hbx q2,Zb hbx q3⟩);have hr9:Below wr.heap.size wr wr.drew:=Zf (Below.refl _ _) 1;refine wp_heldS [] hmx hSv9 hr9 (fun hxs9=>?_);refine Zi4 14 [0,1,2,3,4,5,6,7,8,9,10,11,12,13] rfl (by kernel_rfl) (hSv9.out _ hr9) ?_
     iterate 14 (refine tk1 (v:=?_) rfl (Or.inl ⟨by kernel_rfl,?_⟩) ?_;rotate_left;(· intro W2 hSw;(try dsimp only at hSw);go_simp;try with_reducible rfl);try simp only [Act.put,Zgj,Zfx,Zge,putG_a,putG_s,putG_z])
     refine tk0 ?_;refine Ze (i:=14) rfl (by kernel_rfl) (fun K hK=>?_);go_simp;refine (fCmp_ok n1 m1 n2 m2 A1 B1 A2 B2 k1 c1 j1 d1 k2 c2 j2 d2 _ _ wr.drew (hf1.below hr9) (hf2.below hr9) sc1 sc2).mono ?_;rw [hs.out];rintro e w5 ⟨rfl,hb5⟩;have hr10:=hr9.trans (hb5.mono hr9.size);refine hK.out _ _ (fun _=>hSv9.out _ hr10) ?_;clear hK K
     try simp only [Act.put,Zgj,Zfx,Zge]
     refine Zfy 5 [15,16,17,18,19] rfl (by kernel_rfl) (hSv9.out _ hr10) ?_
     iterate 5 (refine tk1 (v:=?_) rfl (Or.inl ⟨by kernel_rfl,?_⟩) ?_;rotate_left;(· intro W2 _;go_simp;try with_reducible rfl);try simp only [Act.put,Zgj,Zfx,Zge,putG_a,putG_s,putG_z])
     refine tk0 ?_;refine Zk (by kernel_rfl) ?_ _;refine OnlyNormal.normal ?_;have hBf:=Za (hB.trans (hr10.mono hB.size));clear hSv9 hxs9 hr9 hr10 hb5 k0 k0' p0 p1 p2 p3 q0 q1 q2 q3 hf1 hf2
     by_cases hs0:s=0
     case neg =>
      have t3:(s == 0)=false:=by simpa using hs0
      have t3':(s != 0)=true:=by simpa using hs0
      have t3'':decide (s=0)=false:=by simpa using hs0
      have hpt:pd=false:=by rw [<- hpd.out];exact pdB_sym (i:=i) (k:=j) (by rw [hQl.out];exact hin) hji (fun e=>hs0 (by rw [<- hs.out];exact cmpQ_eq0.2 e))
      subst hpt;replace hs0:=Za hs0;go_wp2_with fail;go_returns;exact ⟨rfl,hBf.out⟩
     subst hs0
     have hsj2:Hid (∀ b,b < j+1->Zn (qM rs) i b=Zn (qM rs) b i):=Za (fun b hb=>by
      by_cases he:b=j
      ·rw [he];exact cmpQ_eq0.1 hs.out
      ·exact hsj.out b (by omega))
     go_wp2_with fail
     go_roundg (i - (j+1))
     case measure=>omega
     case rel=>exact ⟨j+1,by omega,by go_num,hsj2,hBf.out⟩
theorem Zfs {C C' m:Nat} (hC:C <= C'):∀ (f c r:Nat) (Z:List (List Int)) (la:Int),okZ C m f c r Z la->okZ C' m f c r Z la
 | 0,_,_,_,_,h=>⟨⟨h.1.1,fun i j=>Nat.lt_of_lt_of_le (h.1.2 i j) hC⟩,h.2.1,Nat.lt_of_lt_of_le h.2.2 hC⟩
 | f+1,_,_,_,_,h=>⟨⟨h.1.1,fun i j=>Nat.lt_of_lt_of_le (h.1.2 i j) hC⟩,⟨h.2.1.1,Nat.lt_of_lt_of_le h.2.1.2 hC⟩,h.2.2.imp id (fun ⟨h1,h2⟩=>⟨fun e=>Zfs hC f _ _ _ _ (h1 e),fun e=>Zfs hC f _ _ _ _ (h2 e)⟩)⟩
theorem pw_pow (k n:Nat):pw k ^ n=pw (k * n):=by
 induction n with
 | zero=>rfl
 | succ n ih=>rw [Nat.pow_succ,ih,Nat.mul_succ,Zdp]
theorem le_pw1 {n:Nat} (h:n <= 900):n <= pw 1:=by rw [Zbh,Zdo];omega
theorem Zgb {b:Nat}:∀ n,n <= 900->Za1 (pw b) n <= pw ((b+1) * n)
 | 0,_=>Nat.le_refl _
 | n+1,h=>by
  have h1:=Zgb (b:=b) n (by omega);have h2:(n+1) * (pw b * Za1 (pw b) n) <= pw 1 * (pw b * pw ((b+1) * n)):=Nat.mul_le_mul (le_pw1 h) (Nat.mul_le_mul (Nat.le_refl _) h1);rw [<- Zdp,<- Zdp] at h2;rw [show (b+1) * (n+1)=1+(b+(b+1) * n) by rw [Nat.mul_succ];omega];exact h2
def SmE (k:Nat) (Q:List (List Rat)):Prop:=∀ i j,(Zn Q i j).num.natAbs <= pw k/\(Zn Q i j).den <= pw k
section
variable {k n m:Nat} {Q:List (List Rat)}
theorem SmE.denTo (h:SmE k Q) (i t:Nat):denTo (Q[i]?.getD []) t <= pw (k * t):=by
 rw [<- pw_pow];exact Zpe _ (fun j=>(h i j).2) t
theorem SmE.denAt (h:SmE k Q) {i:Nat} (hr:(Q[i]?.getD []).length=m):denAt Q i <= pw (k * m):=by
 have:=h.denTo i m;unfold Go.Proofs.YtigdclhagmnopaaGreat.denAt;rw [hr];exact this
theorem Zo4 {z:Int} {d:Nat} {q:Rat} (h:(z:Rat)=(d:Nat) * q):z.natAbs <= d * q.num.natAbs:=by
 have h1:(z:Rat) * ((q.den:Nat):Rat)=((d:Nat):Rat) * ((q.num:Int):Rat):=by
  have e0:((q.num:Int):Rat) / ((q.den:Nat):Rat)=q:=by have:=Rat.num_divInt_den q;rw [Rat.divInt_eq_div,Rat.intCast_natCast] at this;exact this
  have e1:((q.den:Nat):Rat) ≠ 0:=by
   intro h;have:q.den=0:=by exact_mod_cast h
   have:=q.den_pos;omega
  have e2:((q.num:Int):Rat)=q * ((q.den:Nat):Rat):=by
   have:((q.num:Int):Rat) / ((q.den:Nat):Rat) * ((q.den:Nat):Rat)=((q.num:Int):Rat):=by grind
   rw [e0] at this;exact this.symm
  rw [h,e2];grind
 have h2:z * (q.den:Int)=(d:Int) * q.num:=by exact_mod_cast h1
 have h3:=congrArg Int.natAbs h2;rw [Int.natAbs_mul,Int.natAbs_mul,Int.natAbs_natCast,Int.natAbs_natCast] at h3;rw [<- h3];exact Nat.le_mul_of_pos_right _ q.den_pos
theorem SmE.whole (h:SmE k Q) {i:Nat} (hr:(Q[i]?.getD []).length=m) (j:Nat):(Zaf (Zt Q) i j).natAbs <= pw (k * m+k):=by
 refine Nat.le_trans (Zo4 (Zf8 Q i j)) ?_;rw [Zdp];exact Nat.mul_le_mul (h.denAt hr) (h i j).1
theorem SmE.byZ (h:SmE k Q) (hrow:∀ i,i < n->(Q[i]?.getD []).length=m):∀ t,t <= n->byZ Q t <= pw (k * m * t)
 | 0,_=>Nat.le_refl _
 | t+1,ht=>by
  have h1:=SmE.byZ h hrow t (by omega);have h2:=h.denAt (hrow t (by omega));rw [Nat.mul_succ,Zdp];exact Nat.mul_le_mul h1 h2
theorem SmE.rank (h:SmE k Q) (hl:Q.length=n) (hn:n <= 900) (hrow:∀ i,i < n->(Q[i]?.getD []).length=m) (h1:(k * m+k+1) * n+k * m < 189) (h2:k < 189) :
    okZ (pw 200) m m 0 0 (Zt Q) 1/\okR (pw 190) (pw 190) m m 0 0 Q/\rankZ Q m=rankR Q m/\Zgl Q n m:=by
 obtain ⟨o1,o2,o3⟩:=Znw (B:=pw (k * m+k)) (S:=pw (k * m)) (Zbt _) (Zbt _) Q hl hrow (fun i hi=>h.denAt (hrow i hi)) (fun i j hi=>h.whole (hrow i hi) j) (Nat.le_refl m);have hb:=Zgb (b:=k * m+k) n hn;have hp:Za1 (pw (k * m+k)) n < pw 190:=Nat.lt_of_le_of_lt hb (Zb0 (by omega))
 have hp2:Za1 (pw (k * m+k)) n * pw (k * m) < pw 190:=by
  refine Nat.lt_of_le_of_lt (Nat.mul_le_mul hb (Nat.le_refl _)) ?_;rw [<- Zdp];exact Zb0 (by omega)
 refine ⟨Zfs (Nat.le_trans hp (Zbk (by decide))) _ _ _ _ _ o1,Zg0 hp hp2 _ _ _ _ o2,o3,fun i t hi ht=>?_,fun i j=>?_⟩
 ·refine Nat.lt_of_le_of_lt (h.denTo i t) (Zb0 ?_)
  have:k * t <= k * m:=Nat.mul_le_mul (Nat.le_refl _) ht;omega
 ·exact Nat.lt_of_le_of_lt (h i j).1 (Zb0 (by omega))
theorem SmE.det (h:SmE k Q) (hl:Q.length=n) (hn:n <= 900) (hrow:∀ i,i < n->(Q[i]?.getD []).length=n) (h1:(k * n+k+1) * n+k * n < 189) (h2:k < 189) (h3:k * n * n < 4096) :
    Znl Q n/\okR (pw 190) (pw 190) n n 0 0 Q/\Zhy Q=Z1 n (Zn Q):=by
 obtain ⟨o1,o2,o3,o4⟩:=h.rank hl hn hrow h1 h2;obtain ⟨d1,d2,d3⟩:=Zpo (B:=pw (k * n+k)) (S:=pw (k * n)) (Zbt _) (Zbt _) Q hl hrow (fun i hi=>h.denAt (hrow i hi)) (fun i j hi=>h.whole (hrow i hi) j);have hb:=Zgb (b:=k * n+k) n hn;refine ⟨⟨o1,o4,fun t ht=>?_,Nat.lt_of_le_of_lt (Nat.le_trans d3 hb) (Zb0 (by omega)),d1⟩,o2,d2⟩;refine Nat.lt_of_le_of_lt (h.byZ hrow t ht) (Zb0 ?_);have:k * n * t <= k * n * n:=Nat.mul_le_mul (Nat.le_refl _) ht;omega
theorem Zpu {j i t:Nat}:Zn (Zfk Q j) i t=if i < j/\t < j then Zn Q i t else 0:=by
 unfold Zn Zfk;rw [List.getElem?_map,List.getElem?_take]
 by_cases hi:i < j
 ·rw [if_pos hi]
  cases hq:Q[i]? with
  | none=>simp
  | some r =>
   simp only [Option.map_some,Option.getD_some,List.getElem?_take]
   by_cases ht:t < j
   ·rw [if_pos ht,if_pos ⟨hi,ht⟩]
   ·rw [if_neg ht,if_neg (by omega)];rfl
 ·rw [if_neg hi,if_neg (by omega)];rfl
theorem SmE.sub (h:SmE k Q) (j:Nat):SmE k (Zfk Q j):=fun i t=>by
 rw [Zpu]
 split
 ·exact h i t
 ·exact ⟨Nat.zero_le _,Zbt _⟩
end
section
variable {A:Option Addr} {n c:Nat} {rs:List RX} {w:World}
end
end Go.Proofs.YtigdclhagmnopaaGreat
