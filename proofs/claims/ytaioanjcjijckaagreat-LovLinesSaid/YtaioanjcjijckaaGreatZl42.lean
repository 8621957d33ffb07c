/- A new block. Package wide: Sqrt. Package lov: Sigma. The -/
import Derived.Deep.LoopGhost
import Derived.ChangeKeysEq
import Derived.Laws.StructEq
import Derived.Test.YtaioanjcjijckaaGreatZl41
import Derived.Test.YtaioanjcjijckaaGreatZl21
set_option maxRecDepth 100000
set_option maxHeartbeats 8000000
set_option linter.unusedSimpArgs false
set_option linter.unusedVariables false
namespace Go.Proofs.YtaioanjcjijckaaGreat
open Go.RowKit
theorem Zh5 {w : World} (t : TypeId) (cs : Array Value) : ∃ W,w.alloc (.cells cs t) = W /\ Blk W w.heap.size t cs /\ Below w.heap.size w W:=
 ⟨_,rfl,Blk.new _ _ _,(Below.refl _ _).alloc (Nat.le_refl _) _⟩
attribute [local go_sem] Zg
noncomputable def rootN (z : Nat) : Nat:=@dite Nat (∃ r,IsRoot z r) (Classical.propDecidable _) (fun h=>Classical.choose h) (fun _=>0)
theorem Zcz {z r : Nat} (h : IsRoot z r) : rootN z = r:=by
 unfold rootN;rw [@dif_pos _ (Classical.propDecidable _) ⟨r,h⟩];exact (Classical.choose_spec (⟨r,h⟩ : ∃ r,IsRoot z r)).unique h
theorem lim_one {w : World} {g : Nat} {t : TypeId} (h : Blk w g t #[.int .u32 1]) : Lim w (some ⟨g,0,none⟩) 1 1 [1]:=by
 refine ⟨rfl,Nat.le_refl _,by unfold maxLen;omega,fun x hx=>?_,fun _=>⟨g,0,rfl,fun k hk=>?_⟩⟩
 ·rw [List.mem_singleton] at hx;subst hx;decide
 ·obtain rfl : k = 0:=by omega
  exact h.cell 0
theorem Znj {u b : Nat} (h : u < 2 ^ b) : u < (2 ^ ((b + 1) / 2) + 1) * (2 ^ ((b + 1) / 2) + 1):=by
 have h1 : 2 ^ b <= 2 ^ ((b + 1) / 2 + (b + 1) / 2):=Nat.pow_le_pow_right (by decide) (by omega);rw [Nat.pow_add] at h1;have h2 : 2 ^ ((b + 1) / 2) * 2 ^ ((b + 1) / 2) <= (2 ^ ((b + 1) / 2) + 1) * (2 ^ ((b + 1) / 2) + 1):=Nat.mul_le_mul (by omega) (by omega);omega
theorem Zjk {m k : Nat} (h : m <= 32 * k) : 2 ^ m <= pw k:=by
 rw [Zh7];exact Nat.pow_le_pow_right (by decide) h
theorem cmp_geS {a b : Nat} : (0 <= Zaw (a : Int) (b : Int)) ↔ b <= a:=by
 unfold Zaw
 split
 ·constructor <;> intro h <;> omega
 ·split
  ·constructor <;> intro h <;> omega
  ·constructor <;> intro h <;> omega
theorem Zss (neg : Bool) (A : Option Addr) (n c : Nat) (z : Int) (w : World) (hz : Wd w neg A n c z) (h0 : 0 <= z) :
    Calls Tryz.prog 84 #[.agg #[.bool neg,.slice A n c]] w (NumE w (rootN z.natAbs : Nat)):=by
 have hneg:=hz.1
 obtain rfl : neg = false:=by rw [hneg];exact decide_eq_false (by omega)
 have hn:=hz.2.1;obtain ⟨W0,hW0,hB0,⟨q1,q2⟩,s0⟩:=Zdm w 27 #[.bool false,.slice A n c] 27 #[.bool false,.slice none 0 0];obtain ⟨Y1,hY1,qz,hbY⟩:=Zh5 (w:=W0) 27 #[.bool false,.slice A n c];have hzw:=hz;have hgood : Hid (okW false (digits z.natAbs) = true):=hz.ok;have hz0:=Za (hz.below hB0)
 have hWL : Hid (WL Y1 (some ⟨W0.heap.size,0,none⟩) 1 1 [⟨false,A,n,c,digits z.natAbs⟩]):=Za (by
  rw [<- hY1];exact WL.one hz0.out.lim _)
 obtain ⟨gz,hgz⟩ : ∃ g,W0.heap.size = g:=⟨_,rfl⟩;rw [hgz] at hWL;obtain ⟨c10,c11,-⟩:=q1.two;replace q1:=Za (Zb hbY q1);replace q2:=Za (Zb hbY q2);replace hz0:=Za (hz0.out.below hbY);have hBY:=Za (hB0.trans (hbY.mono hB0.size));obtain ⟨d10,d11,-⟩:=q1.out.two;obtain ⟨u,hu⟩ : ∃ u,z.natAbs = u:=⟨_,rfl⟩;rw [hu] at hWL hgood ⊢
 have hzu : z = (u : Int):=by omega
 subst hzu;replace hu:=Za hu;clear hz hzw hneg h0 hbY hB0;replace s0:=Za s0;go_enter Tryz.func84,Tryz.ntmps84;go_wp2_with fail;(try rw [hW0]);(try rw [hgz]);(try rw [hY1]);clear hW0 hY1 hgz qz s0 c10 c11;refine (Zbs hWL.out (by have:=hgood.out;simp [WE.ok,this])).mono ?_;rintro e w1 ⟨rfl,hb1⟩;replace q1:=Za (Zb hb1 q1.out);replace q2:=Za (Zb hb1 q2.out);replace hz0:=Za (hz0.out.below hb1);have hB2:=Za (hBY.out.trans (hb1.mono hBY.out.size));clear hBY;clear hb1 hWL hgood d10 d11;obtain ⟨d10,d11,-⟩:=q1.out.two;go_wp2_with fail;refine (Zsf false A n c u w1 hz0.out).mono ?_;rintro e w3 ⟨b,rfl,hbn,hb32,hb1⟩;replace q1:=Za (Zb hb1 q1.out);replace q2:=Za (Zb hb1 q2.out);replace hz0:=Za (hz0.out.below hb1);have hB4:=Za (hB2.out.trans (hb1.mono hB2.out.size));clear hB2;clear hb1;rw [Int.natAbs_natCast] at hbn;obtain ⟨m,hm⟩ : ∃ m,(b + 1) / 2 = m:=⟨_,rfl⟩
 have hq2 : ((b : Int) + 1) / 2 = (m : Int):=by omega
 have hq2' : ((b : Int) + 1).tdiv 2 = (m : Int):=by rw [Int.tdiv_eq_ediv_of_nonneg (by omega)];omega
 have hbw : IntKind.i64.wrap ((b : Int) + 1) = (b : Int) + 1:=IntWalk.i64_in _ (by omega);have hmw : IntKind.i64.wrap (m : Int) = (m : Int):=IntWalk.i64_in _ (by omega)
 have hm9 : m <= 65536:=by omega
 have hup:=Znj hbn.1;rw [hm] at hup;have hx9 : 2 ^ m < pw 4096:=Nat.lt_of_le_of_lt (Zjk (k:=2048) (by omega)) (Zf0 (by decide));have hx0 : 0 < 2 ^ m:=Nat.pow_pos (by decide);obtain ⟨x0,hx⟩ : ∃ x,2 ^ m = x:=⟨_,rfl⟩;rw [hx] at hup hx9 hx0;have hxH:=Za hx;replace hup:=Za hup;replace hx9:=Za hx9;replace hm:=Za hm;clear hx;obtain ⟨g5,hg6⟩ : ∃ g,w3.heap.size = g:=⟨_,rfl⟩;obtain ⟨V7,hV8,q9,hb10⟩:=Zh5 (w:=w3) 147 #[.int .u32 1];rw [hg6] at q9;replace q1:=Za (Zb hb10 q1.out);replace q2:=Za (Zb hb10 q2.out);replace hz0:=Za (hz0.out.below hb10);have hB11:=Za (hB4.out.trans (hb10.mono hB4.out.size));clear hB4;clear hb10;replace q9:=Za q9;have hl1:=Za (lim_one q9.out);clear d10 d11;go_wp2_with fail;(try rw [hg6]);(try rw [hV8]);clear hV8;replace hg6:=Za hg6;refine (Zq4 (some ⟨g5,0,none⟩) 1 1 m [1] V7 hl1.out (by omega) (by decide)).mono ?_;rintro e w12 ⟨v,o,rfl,hO,hvo,hb1⟩;replace q1:=Za (Zb hb1 q1.out);replace q2:=Za (Zb hb1 q2.out);replace hz0:=Za (hz0.out.below hb1);replace q9:=Za (Zb hb1 q9.out);replace hl1:=Za (hl1.out.below hb1);have hB13:=Za (hB11.out.trans (hb1.mono hB11.out.size));clear hB11;clear hb1;obtain ⟨A1,c1,rfl,hLo⟩:=hO.lim
 have hvo2 : val o = x0:=by
  rw [hvo,hxH.out];show x0 * (1 + 4294967296 * 0) = x0;omega
 have hLc:=hLo.canon.1;have hoc:=hLo.2.2.1;have hoc2:=hLo.2.1;unfold maxLen at hoc;rw [hvo2] at hLc;have hLo':=Za hLo;have hLc':=Za hLc;clear hLo hLc hO hvo hl1;go_wp2_with fail;refine (Zc0 A1 o.length c1 o w12 hLo'.out).mono ?_;rintro e w9 ⟨rfl,rfl⟩;rw [hvo2];clear hLo';obtain ⟨d10,d11,-⟩:=q1.out.two;have hcx:=hLc'.out.2.1;have hcc:=hLc'.out.2.2.1;unfold maxLen at hcc;clear hq2 hq2' hbw hmw;go_wp2_with fail;have hB9:=hB13
 go_loopg [7,8,9,10,11] x0 (fun x rv v8 v9 v10 v11 wr=>∃ (A' : Option Addr) (c' : Nat),rv = .slice A' (digits x).length c' /\ Hid (Lim wr A' (digits x).length c' (digits x)) /\ 0 < x /\ Hid (u < (x + 1) * (x + 1)) /\ Hid (x < pw 4096) /\ Hid (Below w12.heap.size w12 wr))
 case atStart=>exact ⟨_,_,rfl,hLc',hx0,hup,hx9,Za (Below.refl _ _)⟩
 case round =>
  obtain ⟨wi,rfl⟩ : ∃ x : World,x = wr:=⟨_,rfl⟩;obtain ⟨A',c',rfl,hLx,hxp,hux,hxs,hBi⟩:=hrel;have hxc:=hLx.out.2.1;have hxc2:=hLx.out.2.2.1;unfold maxLen at hxc2;have hxl : (digits gk).length <= 4096:=(Zl _ _).2 hxs.out;have k1:=Za (Zb hBi.out q1.out);have k2:=Za (Zb hBi.out q2.out);have hzi:=Za (hz0.out.below hBi.out);have hBw:=Za (hB9.out.trans (hBi.out.mono hB9.out.size));obtain ⟨d10,d11,-⟩:=k1.out.two;clear hLc' hB9
  cases b with
  | zero =>
   have hu0:=hbn.2.1 rfl;have hr0':=Za (Zcz (z:=u) (r:=0) ⟨by omega,by omega⟩)
   have hbp : decide ((0 : Int) < ((0 : Nat) : Int)) = false:=by decide
   obtain ⟨e0,e1,f0,f1⟩:=k2.out.two;obtain ⟨U,hU,hBU,q3,kW,-,-⟩:=Z6 false none 0 0 hBw.out (Nat.le_succ _) k2.out;obtain ⟨r0,r1,-⟩:=q3.two;clear hbn;go_wp2_with fail;(try rw [hU]);refine bodyPost_ret (v:=.tuple #[.agg #[.bool false,.slice none 0 0],.int .i64 0]) (by simp [results,Tryz.results84,go_sem,r0,r1]) rfl ?_;exact ⟨hBU,_,_,_,_,rfl,by rw [hr0'.out];exact Wd.zero _⟩
  | succ b' =>
   have hbp : decide ((0 : Int) < ((b' + 1 : Nat) : Int)) = true:=decide_eq_true (by omega);have hbp' : decide ((0 : Int) < (b' : Int) + 1) = true:=decide_eq_true (by omega);go_wp2_with fail;refine (Zdk A A' n c _ c' u gk wi (by have h9:=hzi.out.lim;rw [Int.natAbs_natCast] at h9;exact h9) hLx.out (by omega) hxp).mono ?_;rintro e w301 ⟨Aq,nq,cq,Ar,nr,cr,rfl,hQ,-,hb1⟩;replace hBi:=Za (hBi.out.trans (hb1.mono hBi.out.size));replace k1:=Za (Zb hb1 k1.out);replace k2:=Za (Zb hb1 k2.out);replace hzi:=Za (hzi.out.below hb1);replace hLx:=Za (hLx.out.below hb1);have hB302:=Za (hBw.out.trans (hb1.mono hBw.out.size));clear hBw;clear hb1;have hqn:=hQ.len;have hqc:=hQ.2.1;have hqc2:=hQ.2.2.1;unfold maxLen at hqc2
   have hql : nq <= 4096:=by
    rw [<- hqn];have h1 : u / gk <= u:=Nat.div_le_self _ _;have h2:=Zr h1;have h3:=hzi.out.lim.len;rw [Int.natAbs_natCast] at h3;omega
   clear d10 d11;replace hQ:=Za hQ;go_wp2_with fail;refine (Zi1 Aq A' nq cq _ c' _ _ w301 hQ.out hLx.out (by omega) (by omega)).mono ?_;rintro e w303 ⟨Ap,np,cp,lp,rfl,hLp,⟨hpl,hpv⟩,hb1⟩;replace hBi:=Za (hBi.out.trans (hb1.mono hBi.out.size));replace k1:=Za (Zb hb1 k1.out);replace k2:=Za (Zb hb1 k2.out);replace hzi:=Za (hzi.out.below hb1);replace hLx:=Za (hLx.out.below hb1);replace hQ:=Za (hQ.out.below hb1);have hB304:=Za (hB302.out.trans (hb1.mono hB302.out.size));clear hB302;clear hb1;rw [Zf,Zf] at hpv;have hpc:=hLp.2.1;have hpc2:=hLp.2.2.1;unfold maxLen at hpc2
   have hpn : np <= 4097:=by have:=hLp.len;omega
   clear hQ;replace hLp:=Za hLp;go_wp2_with fail;refine (Zj6 Ap np cp 1 lp w303 hLp.out (by decide) (by omega)).mono ?_;rintro e w305 ⟨Ah,nh,ch,oh,bh,rfl,hLh,hhv,hb1⟩;replace hBi:=Za (hBi.out.trans (hb1.mono hBi.out.size));replace k1:=Za (Zb hb1 k1.out);replace k2:=Za (Zb hb1 k2.out);replace hzi:=Za (hzi.out.below hb1);replace hLx:=Za (hLx.out.below hb1);replace hLp:=Za (hLp.out.below hb1);have hB306:=Za (hB304.out.trans (hb1.mono hB304.out.size));clear hB304;clear hb1;rw [hpv] at hhv;have hhc:=hLh.2.1;have hhc2:=hLh.2.2.1;unfold maxLen at hhc2;obtain ⟨y,hy⟩ : ∃ y,(u / gk + gk) / 2 = y:=⟨_,rfl⟩
   have hhy : val oh = y:=by rw [hhv,<- hy]
   have hLc:=hLh.canon.1;rw [hhy] at hLc;have hLh':=Za hLh;have hLc':=Za hLc;replace hy:=Za hy;clear hLh hLc hhv hpv;clear hLp;go_wp2_with fail;refine (Zc0 Ah nh ch oh w305 hLh'.out).mono ?_;rintro e w9 ⟨rfl,rfl⟩;rw [hhy];have hyc:=hLc'.out.2.1;have hyc2:=hLc'.out.2.2.1;unfold maxLen at hyc2;clear hLh';go_wp2_with fail;refine (Zbf Ah A' _ ch _ c' _ _ w305 hLc'.out hLx.out).mono ?_;rintro e w307 ⟨rfl,hb1⟩;replace hBi:=Za (hBi.out.trans (hb1.mono hBi.out.size));replace k1:=Za (Zb hb1 k1.out);replace k2:=Za (Zb hb1 k2.out);replace hzi:=Za (hzi.out.below hb1);replace hLx:=Za (hLx.out.below hb1);replace hLc':=Za (hLc'.out.below hb1);have hB308:=Za (hB306.out.trans (hb1.mono hB306.out.size));clear hB306;clear hb1;rw [Zbc]
   by_cases hge : gk <= y
   case pos =>
    have t1 : decide (0 <= Zaw (y : Int) (gk : Int)) = true:=decide_eq_true (cmp_geS.2 hge);have hroot : Hid (rootN u = gk):=Za (Zcz (Zhn hux.out (by rw [hy.out];exact hge)));replace hge:=Za hge;obtain ⟨E,hE⟩ : ∃ E,Zaw (y : Int) (gk : Int) = E:=⟨_,rfl⟩;rw [hE] at t1 ⊢;replace hE:=Za hE;go_wp2_with fail;refine (Za4 false A' _ c' _ w307 hLx.out).mono ?_;rintro e w309 ⟨hb1,rn,rA,rk,rc,code,rfl,hP⟩;replace hBi:=Za (hBi.out.trans (hb1.mono hBi.out.size));replace k1:=Za (Zb hb1 k1.out);replace k2:=Za (Zb hb1 k2.out);replace hzi:=Za (hzi.out.below hb1);replace hLx:=Za (hLx.out.below hb1);replace hLc':=Za (hLc'.out.below hb1);have hB310:=Za (hB308.out.trans (hb1.mono hB308.out.size));clear hB308;clear hb1;rw [Zf] at hP
    have hs9 : (sg false gk).natAbs < pw 4096:=by show ((gk : Nat) : Int).natAbs < _;rw [Int.natAbs_natCast];exact hxs.out
    have hW9:=hP.small hs9;obtain rfl : code = 0:=hP.code0 hs9;obtain ⟨e0,e1,f0,f1⟩:=k2.out.two;clear hP hs9;obtain ⟨U,hU,hBU,q3,kW,-,-⟩:=Z6 rn rA rk rc hB310.out (Nat.le_succ _) k2.out;obtain ⟨r0,r1,-⟩:=q3.two;have hW10:=Za (kW _ _ _ _ _ hW9);clear kW hW9;go_wp2_with fail;(try rw [hU]);refine bodyPost_ret (v:=.tuple #[.agg #[.bool rn,.slice rA rk rc],.int .i64 0]) (by simp [results,Tryz.results84,go_sem,r0,r1]) rfl ?_;exact ⟨hBU,_,_,_,_,rfl,by rw [hroot.out];exact hW10.out⟩
   have t1 : decide (0 <= Zaw (y : Int) (gk : Int)) = false:=decide_eq_false (fun h=>hge (cmp_geS.1 h));have hup2 : Hid (u < (y + 1) * (y + 1)):=Za (by rw [<- hy.out];exact Zkb hxp)
   have hyp : 0 < y:=by
    rcases Nat.eq_zero_or_pos y with h | h
    ·exfalso
     have h1:=hup2.out;rw [h] at h1
     have h2 : u = 0:=by omega
     have h3:=hbn.2.2 h2;omega
    ·exact h
   have hys : Hid (y < pw 4096):=Za (by have:=hxs.out;omega);obtain ⟨E,hE⟩ : ∃ E,Zaw (y : Int) (gk : Int) = E:=⟨_,rfl⟩;rw [hE] at t1 ⊢;replace hE:=Za hE
   have hlt : y < gk:=by omega
   replace hge:=Za hge;go_wp2_with fail
   go_roundg y
   case measure=>omega
   case rel=>exact ⟨_,_,rfl,hLc',hyp,hup2,hys,hBi⟩
noncomputable def sgR (rs : List RX) (k : Int) : Nat:=rootN (Int.fdiv (Zk (qM rs) k.toNat k.toNat).num (Zk (qM rs) k.toNat k.toNat).den).natAbs
noncomputable def sgE (rs : List RX) (k : Int) : Int:=if Zb7 rs k = 0 then (if sgR rs k <= 4611686018427387904 then 0 else 16) else Zb7 rs k
noncomputable def sgV (rs : List RX) (k : Int) : Int:=if Zb7 rs k = 0 then (if sgR rs k <= 4611686018427387904 then (sgR rs k : Int) else 0) else 0
def Zqh (rs : List RX) (k : Int) (w : World) (e : Ending) (w' : World) : Prop:=
 e = .returned (.tuple #[.int .i64 (sgV rs k),.int .i64 (sgE rs k)]) /\ Below w.heap.size w w'
theorem Zta {rs : List RX} {k : Int} (h : Zb7 rs k ≠ 0) : sgE rs k = Zb7 rs k /\ sgV rs k = 0:=by
 unfold sgE sgV;rw [if_neg h,if_neg h];exact ⟨rfl,rfl⟩
theorem sg_ok {rs : List RX} {k : Int} (h : Zb7 rs k = 0) {r : Nat} (e : sgR rs k = r) (hr : r <= 4611686018427387904) : sgE rs k = 0 /\ sgV rs k = r:=by
 subst e;unfold sgE sgV;rw [if_pos h,if_pos h,if_pos hr,if_pos hr];exact ⟨rfl,rfl⟩
theorem Zlj {rs : List RX} {k : Int} (h : Zb7 rs k = 0) {r : Nat} (e : sgR rs k = r) (hr : ¬ r <= 4611686018427387904) : sgE rs k = 16 /\ sgV rs k = 0:=by
 subst e;unfold sgE sgV;rw [if_pos h,if_pos h,if_neg hr,if_neg hr];exact ⟨rfl,rfl⟩
theorem Zht {x : Rat} (h : 0 < x) : 0 <= Int.fdiv x.num x.den:=by
 have h1 : 0 < x.num:=num_pos0.2 h;have h2:=x.den_pos;rw [Int.fdiv_eq_ediv_of_nonneg _ (by omega)];exact Int.ediv_nonneg (by omega) (by omega)
theorem Zps (A : Option Addr) (n c : Nat) (rs : List RX) (kk : Int) (w : World) (h : MXL w A n c rs) (hF : FacC rs) (hk1 : -9223372036854775808 <= kk) (hk2 : kk <= 9223372036854775807) :
    Calls Tryz.prog 25 #[.slice A n c,.int .i64 kk] w (Zqh rs kk w):=by
 have hnl:=Za h.1;have hnc:=h.2.1;have hcm:=h.2.2.1;unfold maxLen at hcm;have hD:=Za (Zfa A n c rs kk w h hF hk1 hk2);have hH:=Za h;clear h hF;go_enter Tryz.func25,Tryz.ntmps25;go_wp2_with fail;refine hD.out.mono ?_;rintro e w1 ⟨hB1,hcase⟩;clear hD
 rcases hcase with ⟨hd0,A2,c2,rfl,hFL⟩ | ⟨hdn,rfl⟩
 case inr =>
  obtain ⟨D,hDD⟩ : ∃ D,Zb7 rs kk = D:=⟨_,rfl⟩;have hsg:=Za (Zta hdn);rw [hDD] at hdn hsg ⊢
  have t0 : (D == 0) = false:=by simpa using hdn
  have t0' : decide (D = 0) = false:=by simpa using hdn
  have t0'' : (D != 0) = true:=by rw [bne,t0];rfl
  replace hdn:=Za hdn;replace hDD:=Za hDD;go_wp2_with fail;go_returns;exact ⟨by rw [hsg.out.1,hsg.out.2];(try rfl),hB1⟩
 have hfc:=hFL.cap;unfold maxLen at hfc;clear hFL
 have hn6 : n = 6:=by
  rw [<- hnl.out]
  by_cases e0 : Za9 rs = 0
  ·by_cases e6 : rs.length = 6
   ·exact e6
   ·rw [Zfh e0 e6] at hd0;exact absurd hd0 (by decide)
  ·rw [Zdf rfl e0] at hd0;exact absurd hd0 e0
 have hc0 : Za9 rs = 0:=by
  by_cases e0 : Za9 rs = 0
  ·exact e0
  ·rw [Zdf rfl e0] at hd0;exact absurd hd0 e0
 subst hn6
 have hkr : 0 <= kk /\ kk <= 5:=by
  by_cases e1 : 0 <= kk /\ kk <= 5
  ·exact e1
  ·rw [Zdl hc0 hnl.out e1] at hd0;exact absurd hd0 (by decide)
 obtain ⟨hcV,hcS,hcP⟩:=Ziv hc0;have hM:=Za ((hcV.good hH.out).below hB1);obtain ⟨k,hkk⟩ : ∃ k : Nat,kk = k:=⟨kk.toNat,by omega⟩;subst hkk
 have hk6 : k < 6:=by omega
 have hrow : ((qM rs)[k]?.getD []).length = 6:=hcV.row hH.out k hk6;have hSm : Sm (Zk (qM rs) k k):=(hcV.small64 hH.out).smC (by decide) k k
 have hdg : 0 < Zk (qM rs) k k:=by
  have h1:=Zeb (A:=Zk (qM rs)) (n:=rs.length) (fun i k hi hk=>symB_iff.1 hcS i k (by unfold qM;rw [List.length_map];exact hi) (by unfold qM;rw [List.length_map];exact hk)) hcP (by rw [hnl.out];exact hk6) k 0 (by omega);exact h1
 obtain ⟨z,hz⟩ : ∃ z,Int.fdiv (Zk (qM rs) k k).num (Zk (qM rs) k k).den = z:=⟨_,rfl⟩
 have hz0 : 0 <= z:=by rw [<- hz];exact Zht hdg
 obtain ⟨r,hr⟩ : ∃ r,rootN z.natAbs = r:=⟨_,rfl⟩
 have hR : sgR rs (k : Int) = r:=by
  rw [<- hr,<- hz];unfold sgR;rw [Int.toNat_natCast]
 obtain ⟨g1,o1,A',n',c',rfl,k0,hRw⟩:=hM.out.at_ hk6
 have hn' : n' = 6:=by rw [<- hRw.len];exact hrow
 subst hn';have hrcap:=hRw.cap;unfold maxLen at hrcap;obtain ⟨g2,o2,xn,xA,xk,xc,xm,xB,xj,xd,rfl,⟨x0,x1,x2,x3⟩,hX⟩:=hRw.at_ hk6;have eX : ((qM rs)[k]?.getD [])[k]?.getD 0 = Zk (qM rs) k k:=rfl;rw [eX] at hX
 have bk6 : (k : Int) < 6:=by omega
 have bk6' : (k : Int) < ((6 : Nat) : Int):=by omega
 replace hX:=Za hX;replace hz:=Za hz;replace hr:=Za hr;replace hR:=Za hR;replace hz0:=Za hz0;replace hd0:=Za hd0;replace hSm:=Za hSm;clear eX hRw hdg hrow hcV hcS hcP hc0 hH hM hkr;go_wp2_with fail;refine (Zrd xn xm xA xB xk xc xj xd _ w1 hX.out hSm.out).mono ?_;rintro e w2 ⟨hb2,nq,Aq,kq,cq,rfl,hQ⟩;rw [hz.out] at hQ;have hB2 : Below w.heap.size w w2:=hB1.trans (hb2.mono hB1.size);have hs2:=hB2.size;clear hb2 hX hz x0 x1 x2 x3 k0;obtain ⟨W2,hW2⟩ : ∃ W,w2.alloc (.cells #[.bool nq,.slice Aq kq cq] 27) = W:=⟨_,rfl⟩
 have hB3 : Below w.heap.size w W2:=by rw [<- hW2];exact hB2.alloc hs2 _
 have hQ2 : Wd W2 nq Aq kq cq z:=by rw [<- hW2];exact hQ.alloc _
 have q2 : Blk W2 w2.heap.size 27 #[.bool nq,.slice Aq kq cq]:=by rw [<- hW2];exact Blk.new w2 _ _
 obtain ⟨c0,c1,-⟩:=q2.two;clear q2 hQ;replace hQ2:=Za hQ2;replace hB3:=Za hB3;replace hB2:=Za hB2;go_wp2_with fail;clear hW2;refine (Zss nq Aq kq cq z W2 hQ2.out hz0.out).mono ?_;rintro e w3 ⟨hb3,nr,Ar,kr,cr,rfl,hS⟩;rw [hr.out] at hS;have hB4 : Below w.heap.size w w3:=hB3.out.trans (hb3.mono hB3.out.size);clear hb3 hQ2 c0 c1 hB3 hB2;have hs3:=hB4.size;obtain ⟨W4,hW4⟩ : ∃ W,w3.alloc (.cells #[.bool nr,.slice Ar kr cr] 27) = W:=⟨_,rfl⟩
 have hB5 : Below w.heap.size w W4:=by rw [<- hW4];exact hB4.alloc hs3 _
 have hS2 : Wd W4 nr Ar kr cr (r : Nat):=by rw [<- hW4];exact hS.alloc _
 have q2 : Blk W4 w3.heap.size 27 #[.bool nr,.slice Ar kr cr]:=by rw [<- hW4];exact Blk.new w3 _ _
 obtain ⟨c0,c1,-⟩:=q2.two;clear q2 hS;replace hS2:=Za hS2;replace hB5:=Za hB5;replace hB4:=Za hB4;go_wp2_with fail;clear hW4;refine (Zpz nr Ar kr cr _ W4 hS2.out).mono ?_;rintro e w5 ⟨rfl,hb5⟩;have hB6 : Below w.heap.size w w5:=hB5.out.trans (hb5.mono hB5.out.size);clear hb5 hS2 c0 c1 hB4 hB5
 by_cases hfit : r < 9223372036854775808
 case neg =>
  rw [Zcf (by omega),Zce (by omega)];have hsg:=Za (Zlj hd0.out hR.out (by omega));replace hfit:=Za hfit;go_wp2_with fail;go_returns;exact ⟨by rw [hsg.out.1,hsg.out.2];(try rfl),hB6⟩
 rw [Zcw (by omega),Zcx (by omega)]
 by_cases hbig : r <= 4611686018427387904
 case neg =>
  have hsg:=Za (Zlj hd0.out hR.out hbig);have t1 : decide (4611686018427387904 < r) = true:=decide_eq_true (by omega);have t2 : decide ((4611686018427387904 : Int) < (r : Int)) = true:=decide_eq_true (by omega);go_wp2_with fail;go_returns;exact ⟨by rw [hsg.out.1,hsg.out.2];(try rfl),hB6⟩
 have hsg:=Za (sg_ok hd0.out hR.out hbig);have t1 : decide (4611686018427387904 < r) = false:=decide_eq_false (by omega);have t2 : decide ((4611686018427387904 : Int) < (r : Int)) = false:=decide_eq_false (by omega);go_wp2_with fail;go_returns;exact ⟨by rw [hsg.out.1,hsg.out.2];(try rfl),hB6⟩
theorem Zrw (na nb : Bool) (A B : Option Addr) (n c m d : Nat) (x : Rat) (w : World) (hx : Fr w na A n c nb B m d x) (hs : Sm x) :
    Calls Tryz.prog 86 #[.agg #[.bool na,.slice A n c,.bool nb,.slice B m d]] w (NumE w (Int.fdiv x.num x.den)):=by
 obtain ⟨W0,hW0,hB0,⟨q0,q1⟩,s0⟩:=Zdm w 29 #[.bool na,.slice A n c,.bool nb,.slice B m d] 27 #[.bool false,.slice none 0 0];have hX:=Za (hx.below hB0)
 have hmx : Tryz.prog.follows .mixedOrders = true:=by kernel_rfl
 clear hx hs;replace hW0:=Za hW0;obtain ⟨a0,a1,a2,a3,-⟩:=q0.four;have hq:=Za (And.intro q0 q1);clear q0 q1;go_enter Tryz.func86,Tryz.ntmps86;have hW0':=hW0.out;go_wp2_with fail;clear hW0 hW0';refine (Zgn na nb A B n c m d x W0 hX.out).mono ?_;rintro e w1 ⟨rfl,hb1⟩;have hB1 : Below w.heap.size w w1:=hB0.trans (hb1.mono hB0.size);have s1 : W0.heap.size <= w1.heap.size:=hb1.size;replace hX:=Za (hX.out.below hb1);obtain ⟨q0,q1⟩:=hq.out;replace q0:=Zb hb1 q0;replace q1:=Zb hb1 q1;clear hq hb1 hB0 a0 a1 a2 a3;obtain ⟨a0,a1,a2,a3,-⟩:=q0.four;have hq:=Za (And.intro q0 q1);clear q0 q1;go_wp2_with fail;refine (Zcu na nb A B n c m d x.num x.den w1 hX.out.1 hX.out.2 (by have:=x.den_pos;omega)).mono ?_;rintro e w2 ⟨hb2,nq,Aq,kq,cq,nr,Ar,kr,cr,rfl,hQ,hR⟩;have hB2 : Below w.heap.size w w2:=hB1.trans (hb2.mono hB1.size);have s2 : w1.heap.size <= w2.heap.size:=hb2.size;replace hX:=Za (hX.out.below hb2);obtain ⟨q0,q1⟩:=hq.out;replace q0:=((Zb hb2 q0).alloc (.cells #[.bool nq,.slice Aq kq cq] 27)).alloc (.cells #[.bool nr,.slice Ar kr cr] 27);replace q1:=((Zb hb2 q1).alloc (.cells #[.bool nq,.slice Aq kq cq] 27)).alloc (.cells #[.bool nr,.slice Ar kr cr] 27);have q4 : Blk ((w2.alloc (.cells #[.bool nq,.slice Aq kq cq] 27)).alloc (.cells #[.bool nr,.slice Ar kr cr] 27)) w2.heap.size 27 #[.bool nq,.slice Aq kq cq]:=(Blk.new w2 _ _).alloc _
 have q5 : Blk ((w2.alloc (.cells #[.bool nq,.slice Aq kq cq] 27)).alloc (.cells #[.bool nr,.slice Ar kr cr] 27)) (w2.heap.size + 1) 27 #[.bool nr,.slice Ar kr cr]:=by
  have:=Blk.new (w2.alloc (.cells #[.bool nq,.slice Aq kq cq] 27)) 27 #[.bool nr,.slice Ar kr cr];simp only [World.size_alloc] at this;exact this
 have hB3 : Below w.heap.size w ((w2.alloc (.cells #[.bool nq,.slice Aq kq cq] 27)).alloc (.cells #[.bool nr,.slice Ar kr cr] 27)):=(hB2.alloc hB2.size _).alloc (by have:=hB2.size;simp;omega) _;have hX3:=(hX.out.alloc (.cells #[.bool nq,.slice Aq kq cq] 27)).alloc (.cells #[.bool nr,.slice Ar kr cr] 27);have hQ3:=(hQ.alloc (.cells #[.bool nq,.slice Aq kq cq] 27)).alloc (.cells #[.bool nr,.slice Ar kr cr] 27);have hR3:=(hR.alloc (.cells #[.bool nq,.slice Aq kq cq] 27)).alloc (.cells #[.bool nr,.slice Ar kr cr] 27);obtain ⟨V,hV⟩ : ∃ V,((w2.alloc (.cells #[.bool nq,.slice Aq kq cq] 27)).alloc (.cells #[.bool nr,.slice Ar kr cr] 27)) = V:=⟨_,rfl⟩
 have sV : V.heap.size = w2.heap.size + 1 + 1:=by rw [<- hV];simp
 rw [hV] at q0 q1 q4 q5 hB3 hX3 hQ3 hR3;have hs2:=hB2.size;clear hq hb2 hB1 a0 a1 a2 a3 hQ hR hX;have hX:=Za hX3;have hQ:=Za hQ3;have hR:=Za hR3;obtain ⟨b0,b1,-⟩:=q4.two;obtain ⟨x0,x1,f0,f1⟩:=q1.two;have hq:=Za (And.intro q1 q4);clear q0 q1 q4 q5 hX3 hQ3 hR3 hX hR;replace hB3:=Za hB3;have sVV:=Za (show w.heap.size + 1 <= V.heap.size by omega);go_wp2_with fail;obtain ⟨u1,u4⟩:=hq.out;obtain ⟨Wa,hWa,hBa,qa,kW,kB,sa⟩:=Z6 nq Aq kq cq hB3.out (by omega) u1;have HZ:=Za (kW _ _ _ _ _ hQ.out);rw [hWa];obtain ⟨y0,y1,-⟩:=qa.two;refine bodyPost_ret (v:=.tuple #[.agg #[.bool nq,.slice Aq kq cq],.int .i64 0]) (by simp [results,Tryz.results86,go_sem,y0,y1]) rfl ?_;exact ⟨hBa,_,_,_,_,rfl,HZ.out⟩
def SqrtC : Prop:=∀ (neg : Bool) (A : Option Addr) (n c : Nat) (z : Int) (w : World),Wd w neg A n c z -> 0 <= z -> Calls Tryz.prog 71 #[.agg #[.bool neg,.slice A n c]] w (NumE w (rootN z.natAbs : Nat))
theorem Zqk (hSq : SqrtC) (A : Option Addr) (n c : Nat) (rs : List RX) (kk : Int) (w : World) (h : MXL w A n c rs) (hF : FacC rs) (hk1 : -9223372036854775808 <= kk) (hk2 : kk <= 9223372036854775807) :
    Calls Tryz.prog 26 #[.slice A n c,.int .i64 kk] w (Zqh rs kk w):=by
 have hnl:=Za h.1;have hnc:=h.2.1;have hcm:=h.2.2.1;unfold maxLen at hcm;have hD:=Za (Zd8 A n c rs kk w h hF hk1 hk2);have hH:=Za h;clear h hF;go_enter Tryz.func26,Tryz.ntmps26;go_wp2_with fail;refine hD.out.mono ?_;rintro e w1 ⟨hB1,hcase⟩;clear hD
 rcases hcase with ⟨hd0,A2,c2,rfl,hFL⟩ | ⟨hdn,rfl⟩
 case inr =>
  obtain ⟨D,hDD⟩ : ∃ D,Zb7 rs kk = D:=⟨_,rfl⟩;have hsg:=Za (Zta hdn);rw [hDD] at hdn hsg ⊢
  have t0 : (D == 0) = false:=by simpa using hdn
  have t0' : decide (D = 0) = false:=by simpa using hdn
  have t0'' : (D != 0) = true:=by rw [bne,t0];rfl
  replace hdn:=Za hdn;replace hDD:=Za hDD;go_wp2_with fail;go_returns;exact ⟨by rw [hsg.out.1,hsg.out.2];(try rfl),hB1⟩
 have hfc:=hFL.cap;unfold maxLen at hfc;clear hFL
 have hn6 : n = 6:=by
  rw [<- hnl.out]
  by_cases e0 : Za9 rs = 0
  ·by_cases e6 : rs.length = 6
   ·exact e6
   ·rw [Zfh e0 e6] at hd0;exact absurd hd0 (by decide)
  ·rw [Zdf rfl e0] at hd0;exact absurd hd0 e0
 have hc0 : Za9 rs = 0:=by
  by_cases e0 : Za9 rs = 0
  ·exact e0
  ·rw [Zdf rfl e0] at hd0;exact absurd hd0 e0
 subst hn6
 have hkr : 0 <= kk /\ kk <= 5:=by
  by_cases e1 : 0 <= kk /\ kk <= 5
  ·exact e1
  ·rw [Zdl hc0 hnl.out e1] at hd0;exact absurd hd0 (by decide)
 obtain ⟨hcV,hcS,hcP⟩:=Ziv hc0;have hM:=Za ((hcV.good hH.out).below hB1);obtain ⟨k,hkk⟩ : ∃ k : Nat,kk = k:=⟨kk.toNat,by omega⟩;subst hkk
 have hk6 : k < 6:=by omega
 have hrow : ((qM rs)[k]?.getD []).length = 6:=hcV.row hH.out k hk6;have hSm : Sm (Zk (qM rs) k k):=(hcV.small64 hH.out).smC (by decide) k k
 have hdg : 0 < Zk (qM rs) k k:=by
  have h1:=Zeb (A:=Zk (qM rs)) (n:=rs.length) (fun i k hi hk=>symB_iff.1 hcS i k (by unfold qM;rw [List.length_map];exact hi) (by unfold qM;rw [List.length_map];exact hk)) hcP (by rw [hnl.out];exact hk6) k 0 (by omega);exact h1
 obtain ⟨z,hz⟩ : ∃ z,Int.fdiv (Zk (qM rs) k k).num (Zk (qM rs) k k).den = z:=⟨_,rfl⟩
 have hz0 : 0 <= z:=by rw [<- hz];exact Zht hdg
 obtain ⟨r,hr⟩ : ∃ r,rootN z.natAbs = r:=⟨_,rfl⟩
 have hR : sgR rs (k : Int) = r:=by
  rw [<- hr,<- hz];unfold sgR;rw [Int.toNat_natCast]
 obtain ⟨g1,o1,A',n',c',rfl,k0,hRw⟩:=hM.out.at_ hk6
 have hn' : n' = 6:=by rw [<- hRw.len];exact hrow
 subst hn';have hrcap:=hRw.cap;unfold maxLen at hrcap;obtain ⟨g2,o2,xn,xA,xk,xc,xm,xB,xj,xd,rfl,⟨x0,x1,x2,x3⟩,hX⟩:=hRw.at_ hk6;have eX : ((qM rs)[k]?.getD [])[k]?.getD 0 = Zk (qM rs) k k:=rfl;rw [eX] at hX
 have bk6 : (k : Int) < 6:=by omega
 have bk6' : (k : Int) < ((6 : Nat) : Int):=by omega
 replace hX:=Za hX;replace hz:=Za hz;replace hr:=Za hr;replace hR:=Za hR;replace hz0:=Za hz0;replace hd0:=Za hd0;replace hSm:=Za hSm;clear eX hRw hdg hrow hcV hcS hcP hc0 hH hM hkr;go_wp2_with fail;refine (Zrw xn xm xA xB xk xc xj xd _ w1 hX.out hSm.out).mono ?_;rintro e w2 ⟨hb2,nq,Aq,kq,cq,rfl,hQ⟩;rw [hz.out] at hQ;have hB2 : Below w.heap.size w w2:=hB1.trans (hb2.mono hB1.size);have hs2:=hB2.size;clear hb2 hX hz x0 x1 x2 x3 k0;obtain ⟨W2,hW2⟩ : ∃ W,w2.alloc (.cells #[.bool nq,.slice Aq kq cq] 27) = W:=⟨_,rfl⟩
 have hB3 : Below w.heap.size w W2:=by rw [<- hW2];exact hB2.alloc hs2 _
 have hQ2 : Wd W2 nq Aq kq cq z:=by rw [<- hW2];exact hQ.alloc _
 have q2 : Blk W2 w2.heap.size 27 #[.bool nq,.slice Aq kq cq]:=by rw [<- hW2];exact Blk.new w2 _ _
 obtain ⟨c0,c1,-⟩:=q2.two;clear q2 hQ;replace hQ2:=Za hQ2;replace hB3:=Za hB3;replace hB2:=Za hB2;go_wp2_with fail;clear hW2;refine (hSq nq Aq kq cq z W2 hQ2.out hz0.out).mono ?_;rintro e w3 ⟨hb3,nr,Ar,kr,cr,rfl,hS⟩;rw [hr.out] at hS;have hB4 : Below w.heap.size w w3:=hB3.out.trans (hb3.mono hB3.out.size);clear hb3 hQ2 c0 c1 hB3 hB2;have hs3:=hB4.size;obtain ⟨W4,hW4⟩ : ∃ W,w3.alloc (.cells #[.bool nr,.slice Ar kr cr] 27) = W:=⟨_,rfl⟩
 have hB5 : Below w.heap.size w W4:=by rw [<- hW4];exact hB4.alloc hs3 _
 have hS2 : Wd W4 nr Ar kr cr (r : Nat):=by rw [<- hW4];exact hS.alloc _
 have q2 : Blk W4 w3.heap.size 27 #[.bool nr,.slice Ar kr cr]:=by rw [<- hW4];exact Blk.new w3 _ _
 obtain ⟨c0,c1,-⟩:=q2.two;clear q2 hS;replace hS2:=Za hS2;replace hB5:=Za hB5;replace hB4:=Za hB4;go_wp2_with fail;clear hW4;refine (Zqa nr Ar kr cr _ W4 hS2.out).mono ?_;rintro e w5 ⟨rfl,hb5⟩;have hB6 : Below w.heap.size w w5:=hB5.out.trans (hb5.mono hB5.out.size);clear hb5 hS2 c0 c1 hB4 hB5
 by_cases hfit : r < 9223372036854775808
 case neg =>
  rw [Zcf (by omega),Zce (by omega)];have hsg:=Za (Zlj hd0.out hR.out (by omega));replace hfit:=Za hfit;go_wp2_with fail;go_returns;exact ⟨by rw [hsg.out.1,hsg.out.2];(try rfl),hB6⟩
 rw [Zcw (by omega),Zcx (by omega)]
 by_cases hbig : r <= 4611686018427387904
 case neg =>
  have hsg:=Za (Zlj hd0.out hR.out hbig);have t1 : decide (4611686018427387904 < r) = true:=decide_eq_true (by omega);have t2 : decide ((4611686018427387904 : Int) < (r : Int)) = true:=decide_eq_true (by omega);go_wp2_with fail;go_returns;exact ⟨by rw [hsg.out.1,hsg.out.2];(try rfl),hB6⟩
 have hsg:=Za (sg_ok hd0.out hR.out hbig);have t1 : decide (4611686018427387904 < r) = false:=decide_eq_false (by omega);have t2 : decide ((4611686018427387904 : Int) < (r : Int)) = false:=decide_eq_false (by omega);go_wp2_with fail;go_returns;exact ⟨by rw [hsg.out.1,hsg.out.2];(try rfl),hB6⟩
theorem Zsg {w : World} {g : Nat} {t : TypeId} (h : Blk w g t #[.int .u32 2]) : Lim w (some ⟨g,0,none⟩) 1 1 [2]:=by
 refine ⟨rfl,Nat.le_refl _,by unfold maxLen;omega,fun x hx=>?_,fun _=>⟨g,0,rfl,fun k hk=>?_⟩⟩
 ·rw [List.mem_singleton] at hx;subst hx;decide
 ·obtain rfl : k = 0:=by omega
  exact h.cell 0
theorem Zsw : SqrtC:=by
 intro neg A n c z w hz h0;have hneg:=hz.1
 obtain rfl : neg = false:=by rw [hneg];exact decide_eq_false (by omega)
 have hn:=hz.2.1;obtain ⟨W0,hW0,hB0,⟨q1,q2⟩,s0⟩:=Zdm w 27 #[.bool false,.slice A n c] 27 #[.bool false,.slice none 0 0];have hgood : Hid (okW false (digits z.natAbs) = true):=hz.ok;have hz0:=Za (fun X (hb : Below w.heap.size w X)=>hz.below hb);obtain ⟨c10,c11,-⟩:=q1.two;obtain ⟨u,hu⟩ : ∃ u,z.natAbs = u:=⟨_,rfl⟩;rw [hu] at hgood ⊢
 have hzu : z = (u : Int):=by omega
 subst hzu;have hlen:=Za hz.lim.len;have hcap:=hz.lim.2.2.1;have hnc:=hz.lim.2.1;unfold maxLen at hcap;replace hu:=Za hu;clear hz hneg h0;have hq:=Za (And.intro q1 q2);clear q1 q2;replace hB0:=Za hB0;replace s0:=Za s0;replace hW0:=Za hW0;go_enter Tryz.func71,Tryz.ntmps71;have hW0':=hW0.out;go_wp2_with fail;clear hW0 hW0' s0;refine (Zae (hz0.out W0 hB0.out).lim (by rw [Int.natAbs_natCast];exact hgood.out)).mono ?_;rintro e w1 ⟨rfl,hb1⟩;have hB1:=hB0.out.trans (hb1.mono hB0.out.size);obtain ⟨q1,q2⟩:=hq.out;replace q1:=Zb hb1 q1;replace q2:=Zb hb1 q2;clear hq hb1 hB0 c10 c11;obtain ⟨c10,c11,-⟩:=q1.two;obtain ⟨e0,e1,f0,f1⟩:=q2.two;have hq:=Za (And.intro q1 q2);clear q1 q2;replace hB1:=Za hB1
 cases n with
 | zero =>
  have hu0 : u = 0:=by
   rcases Nat.eq_zero_or_pos u with h | h
   ·exact h
   ·have:=length_digits_pos.2 h
    have h9:=hlen.out;rw [Int.natAbs_natCast] at h9;omega
  subst hu0;have hr0:=Za (Zcz (z:=0) (r:=0) ⟨by omega,by omega⟩)
  have t1 : decide ((((0 : Nat) : Int)) = 0) = true:=by decide
  obtain ⟨U,hU,hBU,q3,kW,-,-⟩:=Z6 false A 0 c hB1.out (Nat.le_succ _) hq.out.2;obtain ⟨r0,r1,-⟩:=q3.two;have hWd:=Za (kW _ _ _ _ _ (hz0.out w1 hB1.out));go_wp2_with fail;(try rw [hU]);refine bodyPost_ret (v:=.tuple #[.agg #[.bool false,.slice A 0 c],.int .i64 0]) (by simp [results,Tryz.results71,go_sem,r0,r1]) rfl ?_;exact ⟨hBU,_,_,_,_,rfl,by rw [hr0.out];exact hWd.out⟩
 | succ k =>
  have t1 : (((k : Int) + 1) == 0) = false:=by simp;omega
  have t1' : decide ((k : Int) + 1 = 0) = false:=decide_eq_false (by omega);go_wp2_with fail;refine (Ztc false A (k + 1) c u w1 (hz0.out w1 hB1.out)).mono ?_;rintro e w2 ⟨b,rfl,hbn,hb32,hb1⟩;have hB2:=Za (hB1.out.trans (hb1.mono hB1.out.size));obtain ⟨q1,q2⟩:=hq.out;replace q1:=Zb hb1 q1;replace q2:=Zb hb1 q2;clear hq hb1 hB1 c10 c11 e0 e1 f0 f1;have hq:=Za (And.intro q1 q2);clear q1 q2;rw [Int.natAbs_natCast] at hbn;obtain ⟨m,hm⟩ : ∃ m,(b + 1) / 2 = m:=⟨_,rfl⟩
  have hq2 : ((b : Int) + 1) / 2 = (m : Int):=by omega
  have hq2' : ((b : Int) + 1).tdiv 2 = (m : Int):=by rw [Int.tdiv_eq_ediv_of_nonneg (by omega)];omega
  have hbw : IntKind.i64.wrap ((b : Int) + 1) = (b : Int) + 1:=IntWalk.i64_in _ (by omega);have hmw : IntKind.i64.wrap (m : Int) = (m : Int):=IntWalk.i64_in _ (by omega)
  have hm9 : m <= 65536:=by omega
  have hup:=Znj hbn.1;rw [hm] at hup;have hx9 : 2 ^ m < pw 4096:=Nat.lt_of_le_of_lt (Zjk (k:=2048) (by omega)) (Zf0 (by decide));have hx0 : 0 < 2 ^ m:=Nat.pow_pos (by decide);obtain ⟨x0,hx⟩ : ∃ x,2 ^ m = x:=⟨_,rfl⟩;rw [hx] at hup hx9 hx0;have hxH:=Za hx;replace hup:=Za hup;replace hx9:=Za hx9;replace hm:=Za hm;clear hx;go_wp2_with fail;refine (Zbn 1 w2 (by decide) (by decide)).mono ?_;rintro e w3 ⟨hb2,fn,fA,fk,fc,rfl,hF⟩;have hB3:=Za (hB2.out.trans (hb2.mono hB2.out.size));obtain ⟨q1,q2⟩:=hq.out;replace q1:=Zb hb2 q1;replace q2:=Zb hb2 q2;clear hq hb2 hB2;have hq:=Za (And.intro q1 q2);clear q1 q2;replace hF:=Za hF;go_wp2_with fail;refine (Zrt fn fA fk fc m 1 x0 w3 hF.out (by omega) hxH.out.symm (by rw [Int.mul_one,Int.natAbs_natCast];exact hx9.out)).mono ?_;rintro e w4 ⟨hb3,xn,xA,xk,xc,rfl,hX⟩;rw [Int.mul_one] at hX
  obtain rfl : xn = false:=by rw [hX.1];exact decide_eq_false (by omega)
  have hXW:=hX;have hXl:=hX.lim;rw [Int.natAbs_natCast] at hXl;have hB4:=Za (hB3.out.trans (hb3.mono hB3.out.size));obtain ⟨q1,q2⟩:=hq.out;replace q1:=Zb hb3 q1;replace q2:=Zb hb3 q2;clear hq hb3 hB3 hF hX;obtain ⟨V,hV⟩ : ∃ W,w4.alloc (.cells #[.bool false,.slice xA xk xc] 27) = W:=⟨_,rfl⟩;obtain ⟨g6,hg6⟩ : ∃ g,w4.heap.size = g:=⟨_,rfl⟩
  have hbV : Below w4.heap.size w4 V:=by rw [<- hV];exact (Below.refl _ _).alloc (Nat.le_refl _) _
  have q6 : Blk V g6 27 #[.bool false,.slice xA xk xc]:=by rw [<- hV,<- hg6];exact Blk.new _ _ _
  have hg62 : w.heap.size + 1 < g6:=by have:=q2.lt;rw [<- hg6];exact this
  have hB5:=Za (hB4.out.trans (hbV.mono hB4.out.size));replace q1:=Zb hbV q1;replace q2:=Zb hbV q2;have hXV:=Za (hXl.below hbV);replace hXW:=Za (hXW.below hbV);have hq:=Za (And.intro q1 (And.intro q2 q6));clear q1 q2 q6 hbV hXl hB4;replace hV:=Za hV;replace hg6:=Za hg6;go_wp2_with fail;(try rw [hV.out]);clear hV;(try rw [hg6.out]);obtain ⟨p1,p2,p6⟩:=hq.out;clear hq;have hp1:=Za p1;have hp2:=Za p2;have hp6:=Za p6;clear p1 p2 p6
  go_loopg [8,9,10,11] x0 (fun x v8 v9 v10 v11 wr=>∃ (A' : Option Addr) (n' c' : Nat),Hid (Blk wr g6 27 #[.bool false,.slice A' n' c']) /\ Hid (Wd wr false A' n' c' (x : Int)) /\ 0 < x /\ Hid (u < (x + 1) * (x + 1)) /\ Hid (x < pw 4096) /\ Hid (Below w.heap.size w wr) /\ Hid (Blk wr w.heap.size 27 #[.bool false,.slice A (k + 1) c]) /\ Hid (Blk wr (w.heap.size + 1) 27 #[.bool false,.slice none 0 0]))
  case atStart=>exact ⟨_,_,_,hp6,hXW,hx0,hup,hx9,hB5,hp1,hp2⟩
  case round =>
   clear hp1 hp2 hp6 hXV hXW hB5;obtain ⟨wi,rfl⟩ : ∃ x : World,x = wr:=⟨_,rfl⟩;obtain ⟨A',n',c',hp6,hWx,hxp,hux,hxs,hBi,hp1,hp2⟩:=hrel;have hLx:=hWx.out.lim;rw [Int.natAbs_natCast] at hLx;have hxc:=hLx.2.1;have hxc2:=hLx.2.2.1;unfold maxLen at hxc2
   have hxl : n' <= 4096:=by rw [<- hLx.len];exact (Zl _ _).2 hxs.out
   have hxl1 : 1 <= n':=by rw [<- hLx.len];exact length_digits_pos.2 hxp
   have hLx':=Za hLx;clear hLx;have hzi:=hz0.out wi hBi.out;obtain ⟨c10,c11,-⟩:=hp1.out.two;obtain ⟨e0,e1,f0,f1⟩:=hp2.out.two;obtain ⟨i0,i1,j0,j1⟩:=hp6.out.two;go_wp2_with fail;refine (Ze6 A A' (k + 1) c n' c' u gk wi (by have h9:=hzi.lim;rw [Int.natAbs_natCast] at h9;exact h9) hLx'.out (by omega) hxp).mono ?_;rintro e w21 ⟨Aq,nq,cq,Ar,nr,cr,rfl,hQ,-,hb1⟩;have hBj:=Za (hBi.out.trans (hb1.mono hBi.out.size));replace hp1:=Za (Zb hb1 hp1.out);replace hp2:=Za (Zb hb1 hp2.out);replace hp6:=Za (Zb hb1 hp6.out);replace hWx:=Za (hWx.out.below hb1);replace hLx':=Za (hLx'.out.below hb1);have hqc:=hQ.2.1;have hqc2:=hQ.2.2.1;unfold maxLen at hqc2
   have hql : nq <= k + 1:=by
    rw [<- hQ.len];have h2:=Zr (Nat.div_le_self u gk);have h3:=hzi.lim.len;rw [Int.natAbs_natCast] at h3;omega
   clear hBi hb1 hzi c10 c11 e0 e1 f0 f1 i0 i1 j0 j1;obtain ⟨c10,c11,-⟩:=hp1.out.two;obtain ⟨i0,i1,j0,j1⟩:=hp6.out.two;replace hQ:=Za hQ;go_wp2_with fail;refine (Zlc Aq A' nq cq n' c' _ _ w21 hQ.out hLx'.out (by omega) (by omega)).mono ?_;rintro e w22 ⟨Ap,np,cp,lp,rfl,hLp,⟨hpl,hpv⟩,hb1⟩;rw [Zf,Zf] at hpv;have hBi:=Za (hBj.out.trans (hb1.mono hBj.out.size));replace hp1:=Za (Zb hb1 hp1.out);replace hp2:=Za (Zb hb1 hp2.out);replace hp6:=Za (Zb hb1 hp6.out);replace hWx:=Za (hWx.out.below hb1);replace hLx':=Za (hLx'.out.below hb1);have hpc:=hLp.2.1;have hpc2:=hLp.2.2.1;unfold maxLen at hpc2;have hpn:=hLp.len;rw [hpl] at hpn;clear hBj hb1 hQ c10 c11 i0 i1 j0 j1;obtain ⟨V2,hV2,q7,hbV⟩:=Zh5 (w:=w22) 147 #[.int .u32 2];obtain ⟨g7,hg7⟩ : ∃ g,w22.heap.size = g:=⟨_,rfl⟩;have hBj:=Za (hBi.out.trans (hbV.mono hBi.out.size));replace hp1:=Za (Zb hbV hp1.out);replace hp2:=Za (Zb hbV hp2.out);replace hp6:=Za (Zb hbV hp6.out);replace hWx:=Za (hWx.out.below hbV);replace hLx':=Za (hLx'.out.below hbV);replace hLp:=Za (hLp.below hbV);rw [hg7] at q7;have hl2:=Za (Zsg q7);clear hBi hbV q7;go_wp2_with fail;(try rw [hg7]);(try rw [hV2]);clear hV2 hg7;refine (Zsi Ap np cp 2 lp g7 V2 hLp.out hl2.out (by omega) (by omega) (by decide) (by decide)).mono ?_;rintro e w23 ⟨Ah,nh,ch,Ar2,nr2,cr2,rfl,hH,-,hb1⟩;rw [hpv] at hH;obtain ⟨y,hy⟩ : ∃ y,(u / gk + gk) / 2 = y:=⟨_,rfl⟩;rw [hy] at hH;replace hy:=Za hy;have hBi:=Za (hBj.out.trans (hb1.mono hBj.out.size));replace hp1:=Za (Zb hb1 hp1.out)
   replace hp2:=Za (Zb hb1 hp2.out);replace hp6:=Za (Zb hb1 hp6.out);replace hWx:=Za (hWx.out.below hb1);replace hLx':=Za (hLx'.out.below hb1);have hhc:=hH.2.1;have hhc2:=hH.2.2.1;unfold maxLen at hhc2;clear hBj hb1 hLp hl2 hpv;obtain ⟨i0,i1,j0,j1⟩:=hp6.out.two;replace hH:=Za hH;go_wp2_with fail;refine (Zat Ah A' nh ch n' c' _ _ w23 hH.out hLx'.out).mono ?_;rintro e w24 ⟨rfl,hb1⟩;rw [Zbc];have hBj:=Za (hBi.out.trans (hb1.mono hBi.out.size));replace hp1:=Za (Zb hb1 hp1.out);replace hp2:=Za (Zb hb1 hp2.out);replace hp6:=Za (Zb hb1 hp6.out);replace hWx:=Za (hWx.out.below hb1);replace hLx':=Za (hLx'.out.below hb1);replace hH:=Za (hH.out.below hb1);clear hBi hb1 i0 i1 j0 j1;obtain ⟨i0,i1,j0,j1⟩:=hp6.out.two
   by_cases hge : gk <= y
   case pos =>
    have t1 : decide (0 <= Zaw (y : Int) (gk : Int)) = true:=decide_eq_true (cmp_geS.2 hge);have hroot : Hid (rootN u = gk):=Za (Zcz (Zhn hux.out (by rw [hy.out];exact hge)));replace hge:=Za hge;obtain ⟨E,hE⟩ : ∃ E,Zaw (y : Int) (gk : Int) = E:=⟨_,rfl⟩;rw [hE] at t1 ⊢;replace hE:=Za hE;obtain ⟨U,hU,hBU,q3,kW,-,-⟩:=Z6 false A' n' c' hBj.out (Nat.le_succ _) hp2.out;obtain ⟨r0,r1,-⟩:=q3.two;obtain ⟨e0,e1,f0,f1⟩:=hp2.out.two;have hW10:=Za (kW _ _ _ _ _ hWx.out);clear kW;go_wp2_with fail;(try rw [hU]);refine bodyPost_ret (v:=.tuple #[.agg #[.bool false,.slice A' n' c'],.int .i64 0]) (by simp [results,Tryz.results71,go_sem,r0,r1]) rfl ?_;exact ⟨hBU,_,_,_,_,rfl,by rw [hroot.out];exact hW10.out⟩
   have t1 : decide (0 <= Zaw (y : Int) (gk : Int)) = false:=decide_eq_false (fun h=>hge (cmp_geS.1 h));have hup2 : Hid (u < (y + 1) * (y + 1)):=Za (by rw [<- hy.out];exact Zkb hxp)
   have hlt : y < gk:=by omega
   have hyp : 0 < y:=by
    rcases Nat.eq_zero_or_pos y with h | h
    ·exfalso
     have h1:=hup2.out;rw [h] at h1
     have h2 : u = 0:=by omega
     have h3:=hlen.out;rw [Int.natAbs_natCast,h2] at h3;have h4 : (digits 0).length <= 0:=(Zl 0 0).2 (by decide);omega
    ·exact h
   have hys : Hid (y < pw 4096):=Za (by have:=hxs.out;omega);obtain ⟨E,hE⟩ : ∃ E,Zaw (y : Int) (gk : Int) = E:=⟨_,rfl⟩;rw [hE] at t1 ⊢;replace hE:=Za hE;replace hge:=Za hge;go_wp2_with fail
   have hnh : nh <= 4096:=by rw [<- hH.out.len];exact (Zl _ _).2 hys.out
   refine (Zaq false Ah nh ch _ w24 hH.out (by omega)).mono ?_;rintro e w25 ⟨hb1,rn,rA,rk,rc,code,rfl,hP⟩;rw [Zf] at hP
   have hs9 : (sg false y).natAbs < pw 4096:=by show ((y : Nat) : Int).natAbs < _;rw [Int.natAbs_natCast];exact hys.out
   have hW9:=hP.small hs9;obtain rfl : code = 0:=hP.code0 hs9;have hW9' : Wd w25 rn rA rk rc (y : Int):=hW9
   obtain rfl : rn = false:=by rw [hW9'.1];exact decide_eq_false (by omega)
   have hBi:=Za (hBj.out.trans (hb1.mono hBj.out.size));replace hp1:=Za (Zb hb1 hp1.out);replace hp2:=Za (Zb hb1 hp2.out);replace hp6:=Za (Zb hb1 hp6.out);clear hBj hb1 hW9 hP hs9 hH hLx' hWx i0 i1 j0 j1;obtain ⟨i0,i1,j0,j1⟩:=hp6.out.two;obtain ⟨U,hU,hBU,q3,kW,kB,-⟩:=Z6 false rA rk rc hBi.out (show w.heap.size <= g6 by omega) hp6.out;have hW10:=Za (kW _ _ _ _ _ hW9');have hp1':=Za (kB _ _ _ (by omega) hp1.out);have hp2':=Za (kB _ _ _ (by omega) hp2.out);replace q3:=Za q3;replace hBU:=Za hBU;clear kW kB hW9';go_wp2_with fail;(try rw [hU])
   go_roundg y
   case measure=>omega
   case rel=>exact ⟨_,_,_,q3,hW10,hyp,hup2,hys,hBU,hp1',hp2'⟩
theorem Zmq (k : Nat) (a b c a' b' c' : Int) (w : World) : (Op.equalIn (k + 2) 44 (.agg #[.int .i64 a,.int .i64 b,.int .i64 c]) (.agg #[.int .i64 a',.int .i64 b',.int .i64 c'])).run Tryz.prog w = .ok (decide (a = a') && decide (b = b') && decide (c = c')) w:=by
 have hu : Tryz.prog.underlying 44 = some (.array 3 2):=by kernel_rfl
 obtain ⟨i,hi⟩ : ∃ i,Tryz.prog.info? 2 = some i:=Option.isSome_iff_exists.1 (by kernel_rfl);rw [show k + 2 = (k + 1) + 1 from rfl,run_equalIn_array w (k + 1) _ _ hu hi]
 have h1 : Tryz.prog.cellsOf 2 = 1:=by kernel_rfl
 have h2 : Tryz.prog.underlying 2 = some (.int .i64):=by kernel_rfl
 rw [h1];simp only [Op.eqItems,List.range,List.range.loop];go_simp
 by_cases e1 : a = a' <;> by_cases e2 : b = b' <;> by_cases e3 : c = c' <;> simp [e1,e2,e3]
theorem Zm3 (a b c : Int) (w : World) : (Op.equalIn 10000 44 (.agg #[.int .i64 a,.int .i64 b,.int .i64 c]) (.agg #[.int .i64 0,.int .i64 0,.int .i64 0])).run Tryz.prog w = .ok (decide (a = 0) && decide (b = 0) && decide (c = 0)) w:=Zmq 9998 a b c 0 0 0 w
theorem Znk (t a b c d e f t' a' b' c' d' e' f' : Int) (w : World) : (Op.equalIn 10000 46 (.agg #[.int .i64 t,.int .i64 a,.int .i64 b,.int .i64 c,.int .i64 d,.int .i64 e,.int .i64 f]) (.agg #[.int .i64 t',.int .i64 a',.int .i64 b',.int .i64 c',.int .i64 d',.int .i64 e',.int .i64 f'])).run Tryz.prog w = .ok (decide (t = t') && (decide (a = a') && decide (b = b') && decide (c = c')) && (decide (d = d') && decide (e = e') && decide (f = f'))) w:=by
 have hS : Tryz.prog.underlying 46 = some (.struct (Tryz.prog.fieldsOf 46)):=by kernel_rfl
 have hp : Tryz.prog.stoodInHeld 46 = false:=by kernel_rfl
 have hA:=fun a b c a' b' c' w=>Zmq 9997 a b c a' b' c' w
 have h2 : Tryz.prog.underlying 2 = some (.int .i64):=by kernel_rfl
 rw [show (10000 : Nat) = 9999 + 1 from rfl,run_equalIn_agg w 9999 46 _ _ hS hp];simp only [Program.fieldsOf,Tryz.underlying46];go_simp
 by_cases e0 : t = t'
 case neg=>simp [e0]
 simp only [e0,if_true,decide_true,Bool.true_and]
 by_cases h1 : a = a' /\ b = b' /\ c = c'
 ·obtain ⟨rfl,rfl,rfl⟩:=h1
  by_cases h2 : d = d' /\ e = e' /\ f = f'
  ·obtain ⟨rfl,rfl,rfl⟩:=h2
   simp
  ·have : d = d' -> e = e' -> ¬ f = f':=fun x y z=>h2 ⟨x,y,z⟩
   have h3 : (decide (d = d') && decide (e = e') && decide (f = f')) = false:=by
    rw [Bool.eq_false_iff];intro h;simp at h;exact h2 ⟨h.1.1,h.1.2,h.2⟩
   simp only [imp_false,not_true,if_false,decide_true,Bool.true_and];rw [if_pos this,h3]
 ·have : a = a' -> b = b' -> ¬ c = c':=fun x y z=>h1 ⟨x,y,z⟩
  have h3 : (decide (a = a') && decide (b = b') && decide (c = c')) = false:=by
   rw [Bool.eq_false_iff];intro h;simp at h;exact h1 ⟨h.1.1,h.1.2,h.2⟩
  rw [if_pos this,h3];simp
end Go.Proofs.YtaioanjcjijckaaGreat
