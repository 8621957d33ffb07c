/- Package linear: Inverse. Reference: Same of fractions, -/
import Derived.Test.YtigdclhagmnopaaGreatZd45
import Derived.Test.YtigdclhagmnopaaGreatZd43
set_option maxRecDepth 100000
set_option maxHeartbeats 2000000
set_option linter.unusedSimpArgs false
set_option linter.unusedVariables false
namespace Go.Proofs.YtigdclhagmnopaaGreat
open Go.RowKit
attribute [local go_sem] Zg
section
variable {t : TypeId} {w w' : World} {g rest : Nat} {qs : List Rat}
end
theorem Zls (na : Bool) (a : List Nat) : Zgl na na a a = true:=by
 unfold Zgl
 have : Zb7 a a = 0:=by
  unfold Zb7
  simp
 rw [this];simp
theorem Zdl (na nb : Bool) (A B A' B' : Option Addr) (n c m d n' c' m' d' : Nat) (la lb : List Nat) (w : World) (ha : Lim w A n c la) (hb : Lim w B m d lb) (ha' : Lim w A' n' c' la) (hb' : Lim w B' m' d' lb) :
    Calls Tryz.prog 22 #[.agg #[.bool na,.slice A n c,.bool nb,.slice B m d],.agg #[.bool na,.slice A' n' c',.bool nb,.slice B' m' d']] w fun e w'=>e = .returned (.bool true) /\ Below w.heap.size w w':=by
 obtain ⟨W0,hW0,hB0,⟨q0,q1⟩,s0⟩:=Zh7 w 45 #[.bool na,.slice A n c,.bool nb,.slice B m d] 45 #[.bool na,.slice A' n' c',.bool nb,.slice B' m' d'];replace ha:=Za (ha.below hB0);replace hb:=Za (hb.below hB0);replace ha':=Za (ha'.below hB0);replace hb':=Za (hb'.below hB0);obtain ⟨a0,a1,a2,a3,-⟩:=q0.four;obtain ⟨b0,b1,b2,b3,-⟩:=q1.four;have hq:=Za (And.intro q0 q1);clear q0 q1;go_enter Tryz.func22,Tryz.ntmps22;go_wp2_with fail;refine (Zg8 na na A A' n c n' c' _ _ W0 ha.out ha'.out).mono ?_;rw [Zls];rintro e w1 ⟨rfl,hb1⟩;have hB1 : Below w.heap.size w w1:=hB0.trans (hb1.mono hB0.size);obtain ⟨q0,q1⟩:=hq.out;replace q0:=Zc hb1 q0;replace q1:=Zc hb1 q1;clear hW0 a0 a1 a2 a3 b0 b1 b2 b3 hq hB0;obtain ⟨a0,a1,a2,a3,-⟩:=q0.four;obtain ⟨b0,b1,b2,b3,-⟩:=q1.four;clear q0 q1;go_wp2_with fail;refine (Zg8 nb nb B B' m d m' d' _ _ w1 (hb.out.below hb1) (hb'.out.below hb1)).mono ?_;rw [Zls];rintro e w2 ⟨rfl,hb2⟩;have hB2 : Below w.heap.size w w2:=hB1.trans (hb2.mono hB1.size);go_wp2_with fail;go_ret;exact ⟨by simp,hB2⟩
structure DF where
 na : Bool
 la : List Nat
 nb : Bool
 lb : List Nat
def XL (w : World) (A : Option Addr) (n c : Nat) (ds : List DF) : Prop:=
 ds.length = n /\ n <= c /\ c <= maxLen /\ ∀ (k : Nat) (d : DF),ds[k]? = some d -> ∃ g o A1 n1 c1 B1 m1 d1,A = some ⟨g,o,none⟩ /\ At4 w g (o + k * 4) d.na A1 n1 c1 d.nb B1 m1 d1 /\ Lim w A1 n1 c1 d.la /\ Lim w B1 m1 d1 d.lb
section
variable {w w' : World} {A : Option Addr} {n c : Nat} {ds : List DF} {D : List (List DF)}
theorem XL.below (h : XL w A n c ds) (hb : Below w.heap.size w w') : XL w' A n c ds:=by
 obtain ⟨h1,h2,h3,h4⟩:=h;refine ⟨h1,h2,h3,fun k d hd=>?_⟩;obtain ⟨g,o,A1,n1,c1,B1,m1,d1,e,a,b,b'⟩:=h4 k d hd;exact ⟨g,o,A1,n1,c1,B1,m1,d1,e,a.below hb,b.below hb,b'.below hb⟩
def dfQ (q : Rat) : DF:=⟨decide (q.num < 0),digits q.num.natAbs,false,digits q.den⟩
theorem FL.xl {qs : List Rat} (h : FL w A n c qs) : XL w A n c (qs.map dfQ):=by
 have hl:=h.len;refine ⟨by rw [List.length_map,hl],h.cap.1,h.cap.2,fun k d hd=>?_⟩;rw [List.getElem?_map] at hd;obtain ⟨q,hq,rfl⟩:=Option.map_eq_some_iff.1 hd
 have hk : k < n:=by have:=(List.getElem?_eq_some_iff.1 hq).1;omega
 obtain ⟨g,o,na,A1,n1,c1,nb,B,m,d,e1,e2,e3⟩:=h.at_ hk;rw [hq,Option.getD_some] at e3;have h1:=e3.1.1;have h2:=e3.2.1;have h3:=e3.2.2.2;rw [Int.natAbs_natCast] at h3
 have h4 : nb = false:=by rw [h2];exact decide_eq_false (by omega)
 subst h1 h4;exact ⟨g,o,_,_,_,_,_,_,e1,e2,e3.1.2.2,h3⟩
theorem XL.nil (w : World) : XL w none 0 0 []:=⟨rfl,Nat.le_refl _,Nat.zero_le _,fun k d hd=>(by cases hd)⟩
end
theorem Zh8 (A B : Option Addr) (n c d : Nat) (ds : List DF) (w : World) (ha : XL w A n c ds) (hb : XL w B n d ds) :
    Calls Tryz.prog 21 #[.slice A n c,.slice B n d] w fun e w'=>e = .returned (.bool true) /\ Below w.heap.size w w':=by
 have hmx : Tryz.prog.follows .mixedOrders = true:=by kernel_rfl
 have hl:=Za ha.1;have hc:=ha.2.1;have hcm:=ha.2.2.1;have hd:=hb.2.1;have hdm:=hb.2.2.1;unfold maxLen at hcm hdm;replace ha:=Za ha;replace hb:=Za hb
 have t0 : (((n : Int)) != (n : Int)) = false:=by simp
 go_enter Tryz.func21,Tryz.ntmps21;go_wp2_with fail
 go_loopg [5] n (fun k iv wr=>∃ i : Nat,i + k = n /\ iv = .int .i64 i /\ Below w.heap.size w wr)
 case atStart=>exact ⟨0,by omega,rfl,Below.refl _ _⟩
 case round =>
  obtain ⟨i,hik,rfl,hB⟩:=hrel
  cases gk with
  | zero =>
   obtain rfl : i = n:=by omega
   have t1 : decide ((i : Int) < (i : Int)) = false:=by simp
   go_wp2_with fail;go_ret;exact ⟨rfl,hB⟩
  | succ k' =>
   obtain rfl : k' = n - (i + 1):=by omega
   have hin : i < n:=by omega
   have t1 : decide ((i : Int) < (n : Int)) = true:=decide_eq_true (by omega)
   have bi : (i : Int) < (n : Int):=by omega
   obtain ⟨x,hx⟩:=Zc0 (L:=ds) (i:=i) (by rw [hl.out];exact hin);obtain ⟨g,o,A1,n1,c1,B1,m1,d1,rfl,⟨r0,r1,r2,r3⟩,l1,l2⟩:=(ha.out.below hB).2.2.2 i x hx;obtain ⟨g',o',A1',n1',c1',B1',m1',d1',rfl,⟨s0,s1,s2,s3⟩,l1',l2'⟩:=(hb.out.below hB).2.2.2 i x hx;replace l1:=Za l1;replace l2:=Za l2;replace l1':=Za l1';replace l2':=Za l2';go_wp2_with fail;obtain ⟨X0,hX0⟩ : ∃ X,wr.drew = X:=⟨_,rfl⟩
   have hr1 : Below wr.heap.size wr X0:=by rw [<- hX0];exact Zf (Below.refl _ _) 1
   have hSv1 : Hid (∀ wx,Below wr.heap.size wr wx -> wx.cell? ⟨g,o + i * 4,none⟩ = some (.bool x.na) /\ wx.cell? ⟨g,o + i * 4 + 1,none⟩ = some (.slice A1 n1 c1) /\ wx.cell? ⟨g,o + i * 4 + 2,none⟩ = some (.bool x.nb) /\ wx.cell? ⟨g,o + i * 4 + 3,none⟩ = some (.slice B1 m1 d1) /\ wx.cell? ⟨g',o' + i * 4,none⟩ = some (.bool x.na) /\ wx.cell? ⟨g',o' + i * 4 + 1,none⟩ = some (.slice A1' n1' c1') /\ wx.cell? ⟨g',o' + i * 4 + 2,none⟩ = some (.bool x.nb) /\ wx.cell? ⟨g',o' + i * 4 + 3,none⟩ = some (.slice B1' m1' d1')):=Za (fun wx hbx=>⟨Zb hbx r0,Zb hbx r1,Zb hbx r2,Zb hbx r3,Zb hbx s0,Zb hbx s1,Zb hbx s2,Zb hbx s3⟩);refine wp_heldS [] hmx hSv1 (by rw [hX0];exact hr1) (fun hxs=>?_);rw [hX0];refine Zix 8 [0,1,2,3,4,5,6,7] rfl (by kernel_rfl) (hSv1.out _ hr1) ?_
   iterate 8 (refine tk1 (v:=?_) rfl (Or.inl ⟨by kernel_rfl,?_⟩) ?_;rotate_left;(· intro W2 hSw;(try dsimp only at hSw);go_simp;try with_reducible rfl);try simp only [Act.put,Zf1,Zfp,Zfr,putG_a,putG_s,putG_z])
   refine tk0 ?_;refine Ze (i:=8) rfl (by kernel_rfl) (fun K hK=>?_);go_simp;refine (Zdl x.na x.nb A1 B1 A1' B1' n1 c1 m1 d1 n1' c1' m1' d1' x.la x.lb X0 (l1.out.below hr1) (l2.out.below hr1) (l1'.out.below hr1) (l2'.out.below hr1)).mono ?_;rintro e w3 ⟨rfl,hb3⟩;have hr3:=hr1.trans (hb3.mono hr1.size);have hB3:=hB.trans (hr3.mono hB.size);refine hK.out _ _ (fun _=>hSv1.out _ hr3) ?_;clear hK K
   try simp only [Act.put,Zf1,Zfp,Zfr]
   refine Zfs 1 [9] rfl (by kernel_rfl) (hSv1.out _ hr3) ?_
   (refine tk1 (v:=?_) rfl (Or.inl ⟨by kernel_rfl,?_⟩) ?_;rotate_left;(· intro W2 _;go_simp;try with_reducible rfl);try simp only [Act.put,Zf1,Zfp,Zfr,putG_a,putG_s,putG_z])
   refine tk0 ?_;refine Zm (by kernel_rfl) ?_ _;refine OnlyNormal.normal ?_;clear hxs hSv1;go_wp2_with fail
   go_roundg (n - (i + 1))
   case measure=>omega
   case rel=>exact ⟨i + 1,by omega,by go_num,hB3⟩
theorem Zfh {rs : List RI} {rr ws : List Int} (h : Zeh rs rr ws = 0) : rs.length <= 200 /\ (∀ r ∈ rs,r.n <= 12) /\ n0I rs ≠ 0 /\ ws.length = rs.length /\ rr.length = rs.length /\ Zhf 1 ws = false /\ Zhf (-1099511627776) rr = false /\ ∀ r ∈ rs,r.n = n0I rs /\ Zhf (-1099511627776) r.l = false:=by
 unfold Zeh at h
 split at h
 ·cases h
 ·rename_i h1
  split at h
  ·rename_i h2
   simp only [Zjq,Bool.or_eq_true,decide_eq_true_eq,not_or,List.any_eq_true,not_exists,RI.long,not_and] at h1;simp only [sysB,Bool.and_eq_true,Bool.not_eq_true',decide_eq_false_iff_not,decide_eq_true_eq,List.all_eq_true,Zn0] at h2;obtain ⟨a1,a2,a3,a4,a5,a6⟩:=h2;exact ⟨by omega,fun r hr=>by have:=h1.2 r hr;omega,a1,a2,a3,a4,a5,a6⟩
  ·cases h
end Go.Proofs.YtigdclhagmnopaaGreat
