/- Package linear: Inverse. Reference: Same of fractions, -/
import Derived.Test.YtigdclhagmnopaaGreatZp45
import Derived.Test.YtigdclhagmnopaaGreatZp43
set_option maxRecDepth 100000
set_option maxHeartbeats 8000000
set_option linter.unusedSimpArgs false
set_option linter.unusedVariables false
namespace Go.Proofs.YtigdclhagmnopaaGreat
open Go.RowKit
attribute [local go_sem] Zh
theorem Zkq (x y : Value) (W : World) : (callFunc 79 #[x,y]).run Tryz.prog W = .ok (.enter 79 #[x,y]) W:=by simp [go_sem]
def FPart (t : TypeId) (w : World) (g : Nat) (qs : List Rat) (rest : Nat) : Prop:=∃ es zs : List FE,Blk w g t (Zx (es ++ zs)) /\ zs.length = rest /\ (∀ e ∈ es,e.in_ w) /\ es.map FE.q = qs
section
variable {t : TypeId} {w w' : World} {g rest : Nat} {qs : List Rat}
theorem FPart.below (h : FPart t w g qs rest) (hb : Below w.heap.size w w') : FPart t w' g qs rest:=by
 obtain ⟨es,zs,h1,h2,h3,h4⟩:=h;exact ⟨es,zs,Zb hb h1,h2,fun e he=>(h3 e he).below hb,h4⟩
theorem FPart.raw (h : FPart t w g qs rest) : FRaw t w g (qs.length + rest):=by
 obtain ⟨es,zs,h1,h2,h3,rfl⟩:=h;exact ⟨_,h1,by simp [h2]⟩
theorem FPart.own (h : FPart t w g qs 0) : FOwn t w g qs:=by
 obtain ⟨es,zs,h1,h2,h3,h4⟩:=h;exact ⟨es,zs,h1,h3,h4⟩
theorem FPart.push (h : FPart t w g qs (rest + 1)) {na : Bool} {A : Option Addr} {k c : Nat} {nb : Bool} {B : Option Addr} {m d : Nat} {r : Rat} (hf : Fr w na A k c nb B m d r) : FPart t (Zn0 w g qs.length na A k c nb B m d) g (qs ++ [r]) rest:=by
 obtain ⟨es,zs,h1,h2,h3,rfl⟩:=h
 obtain ⟨z,zs',rfl⟩ : ∃ z zs',zs = z :: zs':=by
  cases zs with
  | nil=>simp at h2
  | cons z zs'=>exact ⟨z,zs',rfl⟩
 have hn:=Zco (es ++ z :: zs');have h4:=(((h1.set_ (es.length * 4) (.bool na)).set_ (es.length * 4 + 1) (.slice A k c)).set_ (es.length * 4 + 2) (.bool nb)).set_ (es.length * 4 + 3) (.slice B m d);have hs:=Zji (es:=es ++ z :: zs') (i:=es.length) ⟨na,A,k,c,nb,B,m,d,r⟩ (by simp);dsimp only at hs;rw [hs,List.set_append_right _ _ (Nat.le_refl _),Nat.sub_self,List.set_cons_zero] at h4;refine ⟨es ++ [⟨na,A,k,c,nb,B,m,d,r⟩],zs',?_,by simpa using h2,fun e he=>?_,by simp⟩
 ·rw [List.append_assoc,List.singleton_append,List.length_map];exact h4
 ·rw [List.length_map]
  rcases List.mem_append.1 he with he | he
  ·obtain ⟨a,b⟩:=h3 e he
   exact ⟨⟨a.1,a.2.1,Ze7 a.2.2 h1 hn⟩,⟨b.1,b.2.1,Ze7 b.2.2 h1 hn⟩⟩
  ·rw [List.mem_singleton] at he
   subst he;exact ⟨⟨hf.1.1,hf.1.2.1,Ze7 hf.1.2.2 h1 hn⟩,⟨hf.2.1,hf.2.2.1,Ze7 hf.2.2.2 h1 hn⟩⟩
end
theorem Zso {n i : Nat} (hi : i < n) : (List.replicate n (0 : Rat)).set i 1 = Zf2 n i:=by
 unfold Zf2
 apply List.ext_getElem?
 intro k;rw [List.getElem?_set,List.length_replicate,List.getElem?_map]
 by_cases hk : k < n
 ·rw [List.getElem?_range hk,List.getElem?_replicate,if_pos hk,Option.map_some]
  by_cases h : i = k
  ·rw [if_pos h,if_pos hi,if_pos h]
  ·rw [if_neg h,if_neg h]
 ·rw [List.getElem?_replicate,if_neg hk,if_neg (by omega),List.getElem?_eq_none (by simpa using hk)];rfl
theorem Zpd (gx : Nat) (A : Option Addr) (n c i : Nat) (w : World) (hx : Blk w gx 22 #[.slice A n c]) (hn9 : n <= 900) (hin : i < n) :
    Calls Tryz.prog 79 #[.int .i64 i,.pointer (some ⟨gx,0,none⟩)] w fun e w'=>∃ A c,e = .returned (.slice A n c) /\ Below w.heap.size w w' /\ FL w' A n c (Zf2 n i):=by
 obtain ⟨iF,hi,hz0,hz1,hz2⟩:=info_parts Zd5;have hmk:=Zqt (P:=Tryz.prog) 40 45 Tryz.underlying40 hi hz0 hz1 hz2 (n : Int) n rfl (by omega) w;obtain ⟨W0,hW0⟩ : ∃ X,w.alloc (.cells (Zx (List.replicate n Zak)) 45) = X:=⟨_,rfl⟩;obtain ⟨g,hg⟩ : ∃ g,w.heap.size = g:=⟨_,rfl⟩;rw [hW0,hg] at hmk
 have hb0 : Below g w W0:=by rw [<- hW0,<- hg];exact (Below.refl _ _).alloc (Nat.le_refl _) _
 have hP0 : FPart 45 W0 g [] n:=⟨[],List.replicate n Zak,by rw [<- hW0,<- hg];exact Blk.new _ _ _,by simp,fun e he=>(by cases he),rfl⟩;have hx0:=hx.cell 0
 simp at hx0
 replace hP0:=Za hP0;rw [hg];clear hW0;go_enter Tryz.func79,Tryz.ntmps79;go_wp2_with fail
 go_loopg [11] n (fun j kv wr=>∃ k : Nat,k + j = n /\ kv = .int .i64 k /\ FPart 45 wr g (List.replicate k 0) (n - k) /\ Below g w wr)
 case atStart=>exact ⟨0,by omega,rfl,hP0.out,hb0⟩
 case round =>
  clear hP0 hmk;obtain ⟨k,hkj,rfl,hP,hB⟩:=hrel
  cases gk with
  | zero =>
   obtain rfl : k = n:=by omega
   have t1 : decide ((k : Int) < (k : Int)) = false:=by simp
   rw [Nat.sub_self] at hP
   have bi : (i : Int) < (k : Int):=by omega
   have bi0 : (0 : Int) <= (i : Int):=by omega
   replace hP:=Za hP;go_wp2_with fail;refine (Zje 1 1 wr (by decide) (by decide) (by decide) (by decide)).mono ?_;rintro e w2 ⟨hb2,n6,A6,k6,c6,m6,B6,j6,d6,rfl,hf6⟩;rw [Zei] at hf6;have hP2:=hP.out.below hb2;have hlen : (List.replicate k (0 : Rat)).length = k:=List.length_replicate ..;obtain ⟨x0,x1,x2,x3,x4,x5,x6,x7,y0,y1,y2,y3⟩:=hP2.raw.cells (i:=i) (by rw [hlen];omega);have z0:=hP2.raw.frozen (i * 4);have z1:=hP2.raw.frozen (i * 4 + 1);have z2:=hP2.raw.frozen (i * 4 + 2);have z3:=hP2.raw.frozen (i * 4 + 3);obtain ⟨Z,hZ⟩ : ∃ W,Zn0 w2 g i n6 A6 k6 c6 m6 B6 j6 d6 = W:=⟨_,rfl⟩
   have hO : FOwn 45 Z g (Zf2 k i):=by
    rw [<- Zso hin,<- hZ];exact hP2.own.set_ (by rw [hlen];exact hin) hf6
   have hBZ : Below g w Z:=by
    rw [<- hZ];exact Zk1 (hB.trans (hb2.mono (by rw [<- hg];exact hB.size))) (Nat.le_refl _)
   unfold Zn0 at hZ;replace hO:=Za hO;clear hP2 hf6 hP;go_wp2_with fail;(try rw [hZ]);go_wp2_with fail;go_ret;have h1:=hO.out.fl (c:=k) (by rw [Ze2];exact Nat.le_refl _) (by unfold maxLen;omega);rw [Ze2] at h1;exact ⟨_,_,rfl,hBZ,h1⟩
  | succ j =>
   obtain rfl : j = n - (k + 1):=by omega
   have hkn : k < n:=by omega
   have t1 : decide ((k : Int) < (n : Int)) = true:=decide_eq_true (by omega)
   have bi : (k : Int) < (n : Int):=by omega
   have bi0 : (0 : Int) <= (k : Int):=by omega
   replace hP:=Za hP;go_wp2_with fail;refine (Zje 0 1 wr (by decide) (by decide) (by decide) (by decide)).mono ?_;rintro e w2 ⟨hb2,n6,A6,k6,c6,m6,B6,j6,d6,rfl,hf6⟩;rw [Zei] at hf6;have hP2:=hP.out.below hb2;have hlen : (List.replicate k (0 : Rat)).length = k:=List.length_replicate ..;obtain ⟨x0,x1,x2,x3,x4,x5,x6,x7,y0,y1,y2,y3⟩:=hP2.raw.cells (i:=k) (by rw [hlen];omega);have z0:=hP2.raw.frozen (k * 4);have z1:=hP2.raw.frozen (k * 4 + 1);have z2:=hP2.raw.frozen (k * 4 + 2);have z3:=hP2.raw.frozen (k * 4 + 3);obtain ⟨Z,hZ⟩ : ∃ W,Zn0 w2 g k n6 A6 k6 c6 m6 B6 j6 d6 = W:=⟨_,rfl⟩
   have hO : FPart 45 Z g (List.replicate (k + 1) 0) (n - (k + 1)):=by
    rw [show n - k = n - (k + 1) + 1 by omega] at hP2;have h1:=hP2.push hf6;rw [hlen,hZ] at h1;rw [List.replicate_succ'];exact h1
   have hBZ : Below g w Z:=by
    rw [<- hZ];exact Zk1 (hB.trans (hb2.mono (by rw [<- hg];exact hB.size))) (Nat.le_refl _)
   unfold Zn0 at hZ;replace hO:=Za hO;clear hP2 hf6 hP;go_wp2_with fail;(try rw [hZ]);go_wp2_with fail
   go_roundg (n - (k + 1))
   case measure=>omega
   case rel=>exact ⟨k + 1,by omega,by go_num,hO.out,hBZ⟩
theorem Znn (A : Option Addr) (n c : Nat) (rs : List RX) (w : World) (h : MXL w A n c rs) (E : Int) (hs : sqE rs = E) (hE : E ≠ 0) :
    Calls Tryz.prog 28 #[.slice A n c] w fun e w'=>e = .returned (.tuple #[.slice none 0 0,.int .i64 E]) /\ Below w.heap.size w w':=by
 obtain ⟨W0,hW0,hB0,q0,s0⟩:=Zbp w 22 #[.slice A n c];have k0:=q0.cell 0
 simp at k0
 have t1 : decide (E ≠ 0) = true:=decide_eq_true hE
 have t1' : (E != 0) = true:=by simpa using hE
 replace h:=Za (h.below hB0);replace hs:=Za hs;replace hE:=Za hE;go_enter Tryz.func28,Tryz.ntmps28;go_wp2_with fail;(try rw [hW0]);go_wp2_with fail;refine (Zb4 A n c rs W0 h.out E hs.out).mono ?_;rintro e w1 ⟨rfl,hb1⟩;go_wp2_with fail;go_returns;exact ⟨rfl,hB0.trans (hb1.mono hB0.size)⟩
def InvZ (Q : List (List Rat)) (n : Nat) (X : Nat -> Nat -> Rat) (w : World) (e : Ending) (w' : World) : Prop:=
 ((Z0 n 0 0 (Zl (wideI Q n n 0)) false 1).2.1 < n /\ e = .returned (.tuple #[.slice none 0 0,.int .i64 18]) /\ Below w.heap.size w w') \/
 ((Z0 n 0 0 (Zl (wideI Q n n 0)) false 1).2.1 = n /\ ∃ gO L,e = .returned (.tuple #[.slice (some ⟨gO,0,none⟩) n n,.int .i64 0]) /\ Below w.heap.size w w' /\ MatB 40 45 w' gO L /\ L.map RF.q = Zfd X n (n + n))
theorem Zh6 (A : Option Addr) (n c : Nat) (rs : List RX) (w : World) (h : MXL w A n c rs) (hs : sqE rs = 0) (hn9 : n <= 12) (hok : okZ (pw 200) (n + n) n 0 0 (Zl (wideI (qM rs) n n 0)) 1) (hfin : Zd2 (wideI (qM rs) n n 0) n (n + n)) (hrk : (Z0 n 0 0 (Zl (wideI (qM rs) n n 0)) false 1).2.1 <= n)
    (X : Nat -> Nat -> Rat) (hX : (Z0 n 0 0 (Zl (wideI (qM rs) n n 0)) false 1).2.1 = n -> Zea (fun i j=>(Z7 (Z0 n 0 0 (Zl (wideI (qM rs) n n 0)) false 1).1 i j : Rat)) X n (n + n)) :
    Calls Tryz.prog 28 #[.slice A n c] w (InvZ (qM rs) n X w):=by
 have hmx : Tryz.prog.follows .mixedOrders = true:=by kernel_rfl
 have hts : (40 : TypeId) ≠ 45:=by decide
 obtain ⟨hE1,hE2⟩:=Zg3 hs;obtain ⟨f1,f2,f3,f4,f5⟩:=Zci hE1;have hl:=h.1;have hQl : (qM rs).length = n:=Zlm h;have hQr:=Zni h hE1;rw [show n0R rs = n by omega] at hQr;have hF0:=h.good hE1;obtain ⟨W0,hW0,hB0,q0,s0⟩:=Zbp w 22 #[.slice A n c];have k0:=q0.cell 0
 simp at k0
 obtain ⟨Q,hQ⟩ : ∃ Q,qM rs = Q:=⟨_,rfl⟩;rw [hQ] at hQl hQr hF0 hok hfin hrk;rw [hQ] at hX;replace hX:=Za hX;unfold InvZ;rw [hQ]
 have hn1 : 1 <= n:=by omega
 replace h:=Za (h.below hB0);replace hs:=Za hs;replace hF0:=Za (hF0.below hB0);replace hQr:=Za hQr;replace hok:=Za hok;replace hrk:=Za hrk;replace hfin:=Za hfin;clear f3 f4 f5 hE1 hE2;go_enter Tryz.func28,Tryz.ntmps28;go_wp2_with fail;(try rw [hW0]);go_wp2_with fail;refine (Zb4 A n c rs W0 h.out 0 hs.out).mono ?_;rintro e w1 ⟨rfl,hb1⟩;have q1:=Zb hb1 q0;replace hF0:=Za (hF0.out.below hb1);clear k0;go_wp2_with fail;obtain ⟨X0,hX0⟩ : ∃ X,w1.drew = X:=⟨_,rfl⟩
 have hr1 : Below w1.heap.size w1 X0:=by rw [<- hX0];exact Zf (Below.refl _ _) 1
 have hSv1 : Hid (∀ wx,Below w1.heap.size w1 wx -> wx.cell? ⟨w.heap.size,0,none⟩ = some (.slice A n c)):=Za (fun wx hbx=>by
  have h1:=(q1.below hbx q1.lt).cell 0
  simpa using h1)
 refine wp_heldS [] hmx hSv1 (by rw [hX0];exact hr1) (fun hxs=>?_);rw [hX0];refine Zif 4 [0,1,3,4] rfl (by kernel_rfl) (hSv1.out _ hr1) ?_
 iterate 4 (refine tk1 (v:=?_) rfl (Or.inl ⟨by kernel_rfl,?_⟩) ?_;rotate_left;(· intro W2 hSw;(try dsimp only at hSw);go_simp;try with_reducible rfl);try simp only [Act.put,Zf0,Zfg,Zfv,putG_a,putG_s,putG_z])
 refine tk0 ?_;refine Ze (i:=2) rfl (by kernel_rfl) (fun K hK=>?_);go_simp;refine (Zme 79 (.pointer (some ⟨w.heap.size,0,none⟩)) A n c n n Q (fun i=>Zf2 n i) X0 (hF0.out.below hr1) (by omega) hQr.out (by omega) (by omega) (by omega) (by omega) (fun i hi=>Ze2 _ _) (fun x W=>Zkq _ _ _) (fun W i hbW hi=>Zpd w.heap.size A n c i W (((q1.below hr1 q1.lt)).below hbW (q1.below hr1 q1.lt).lt) (by omega) hi)).mono ?_;rintro e w3 ⟨go,L,rfl,hb3,-,hLl,hM3,hLq⟩
 have hwide : L.map RF.q = wideI Q n n 0:=by
  rw [hLq];unfold wideI
  refine List.map_congr_left fun j hj=>?_
  rw [if_pos (List.mem_range.1 hj)]
 have hMF:=hM3.mfl hLl (Nat.le_refl n) (by unfold maxLen;omega);rw [hwide] at hMF;have hr3:=hr1.trans (hb3.mono hr1.size)
 have hml : ∀ j,j < n -> ((wideI Q n n 0)[j]?.getD []).length = n + n:=fun j hj=>by
  rw [Zi9 hj,if_pos hj,List.length_append,hQr.out j hj,Ze2]
 replace hMF:=Za hMF;replace hml:=Za hml;refine hK.out _ _ (fun _=>hSv1.out _ hr3) ?_;clear hK K hM3 hwide hLq hb3 hLl
 try simp only [Act.put,Zf0,Zfg,Zfv]
 by_cases hlt : (Z0 n 0 0 (Zl (wideI Q n n 0)) false 1).2.1 < n
 ·skip
  replace hlt:=Za hlt;refine Ze (i:=5) rfl (by kernel_rfl) (fun K hK=>?_);go_simp;refine (Zko (some ⟨go,0,none⟩) n n (n + n) (wideI Q n n 0) w3 hMF.out (by omega) (by omega) (by omega) (by omega) hml.out hok.out hfin.out hlt.out).mono ?_;rintro e w5 ⟨rfl,hb5⟩;have hr5:=hr3.trans (hb5.mono hr3.size);refine hK.out _ _ (fun _=>hSv1.out _ hr5) ?_;clear hK K
  try simp only [Act.put,Zf0,Zfg,Zfv]
  refine Zfh 5 [6,7,8,9,10] rfl (by kernel_rfl) (hSv1.out _ hr5) ?_
  iterate 5 (refine tk1 (v:=?_) rfl (Or.inl ⟨by kernel_rfl,?_⟩) ?_;rotate_left;(· intro W2 _;go_simp;try with_reducible rfl);try simp only [Act.put,Zf0,Zfg,Zfv,putG_a,putG_s,putG_z])
  refine tk0 ?_;refine Zk (by kernel_rfl) ?_ _;refine OnlyNormal.normal ?_;have hB9 : Below w.heap.size w w5:=hB0.trans (hb1.mono hB0.size |>.trans (hr5.mono (Nat.le_trans hB0.size hb1.size)));clear hxs hSv1 hr1 hr3;go_wp2_with fail;go_returns;exact .inl ⟨hlt.out,rfl,hB9⟩
 ·skip
  have hre : Hid ((Z0 n 0 0 (Zl (wideI Q n n 0)) false 1).2.1 = n):=Za (Nat.le_antisymm hrk.out (Nat.not_lt.1 hlt));clear hlt;refine Ze (i:=5) rfl (by kernel_rfl) (fun K hK=>?_);go_simp;refine (Zka (some ⟨go,0,none⟩) n n (n + n) (wideI Q n n 0) w3 hMF.out (by omega) (by omega) (by omega) (by omega) hml.out hok.out hfin.out hre.out X (hX.out hre.out)).mono ?_;rintro e w5 ⟨gO,L5,rfl,hb5,hgO,hM5,hLq5,hgs5⟩;have hr5:=hr3.trans (hb5.mono hr3.size);have hM9:=Za (show MatB 40 45 w5 gO L5 from hM5);refine hK.out _ _ (fun _=>hSv1.out _ hr5) ?_;clear hK K
  try simp only [Act.put,Zf0,Zfg,Zfv]
  refine Zfh 5 [6,7,8,9,10] rfl (by kernel_rfl) (hSv1.out _ hr5) ?_
  iterate 5 (refine tk1 (v:=?_) rfl (Or.inl ⟨by kernel_rfl,?_⟩) ?_;rotate_left;(· intro W2 _;go_simp;try with_reducible rfl);try simp only [Act.put,Zf0,Zfg,Zfv,putG_a,putG_s,putG_z])
  refine tk0 ?_;refine Zk (by kernel_rfl) ?_ _;refine OnlyNormal.normal ?_;have hB9 : Below w.heap.size w w5:=hB0.trans (hb1.mono hB0.size |>.trans (hr5.mono (Nat.le_trans hB0.size hb1.size)));clear hxs hSv1 hr1 hr3;clear hM5;go_wp2_with fail;go_returns;exact .inr ⟨hre.out,gO,L5,rfl,hB9,hM9.out,hLq5⟩
theorem Zop (A : Option Addr) (n c : Nat) (rs : List RX) (w : World) (h : MXL w A n c rs) (hs : sqE rs = 0) (hn9 : n <= 12) (hok : okZ (pw 200) (n + n) n 0 0 (Zl (wideI (qM rs) n n 0)) 1) (hfin : Zd2 (wideI (qM rs) n n 0) n (n + n)) (hrk : (Z0 n 0 0 (Zl (wideI (qM rs) n n 0)) false 1).2.1 < n) :
    Calls Tryz.prog 28 #[.slice A n c] w fun e w'=>e = .returned (.tuple #[.slice none 0 0,.int .i64 18]) /\ Below w.heap.size w w':=
 (Zh6 A n c rs w h hs hn9 hok hfin (by omega) (fun _ _=>0) (fun h=>by omega)).mono fun e w' h=>by
  rcases h with h | h
  ·exact h.2
  ·have:=h.1;omega
theorem Zpn (A : Option Addr) (n c : Nat) (rs : List RX) (w : World) (h : MXL w A n c rs) (hs : sqE rs = 0) (hn9 : n <= 12) (hok : okZ (pw 200) (n + n) n 0 0 (Zl (wideI (qM rs) n n 0)) 1) (hfin : Zd2 (wideI (qM rs) n n 0) n (n + n)) (hrk : (Z0 n 0 0 (Zl (wideI (qM rs) n n 0)) false 1).2.1 = n)
    (X : Nat -> Nat -> Rat) (hX : Zea (fun i j=>(Z7 (Z0 n 0 0 (Zl (wideI (qM rs) n n 0)) false 1).1 i j : Rat)) X n (n + n)) :
    Calls Tryz.prog 28 #[.slice A n c] w fun e w'=>∃ gO L,e = .returned (.tuple #[.slice (some ⟨gO,0,none⟩) n n,.int .i64 0]) /\ Below w.heap.size w w' /\ MatB 40 45 w' gO L /\ L.map RF.q = Zfd X n (n + n):=
 (Zh6 A n c rs w h hs hn9 hok hfin (by omega) X (fun _=>hX)).mono fun e w' h=>by
  rcases h with h | h
  ·have:=h.1;omega
  ·exact h.2
theorem Zky (na : Bool) (a : List Nat) : Zk8 na na a a = true:=by
 unfold Zk8
 have : Zbz a a = 0:=by
  unfold Zbz
  simp
 rw [this];simp
theorem Zhk (na nb : Bool) (A B A' B' : Option Addr) (n c m d n' c' m' d' : Nat) (la lb : List Nat) (w : World) (ha : Lim w A n c la) (hb : Lim w B m d lb) (ha' : Lim w A' n' c' la) (hb' : Lim w B' m' d' lb) :
    Calls Tryz.prog 22 #[.agg #[.bool na,.slice A n c,.bool nb,.slice B m d],.agg #[.bool na,.slice A' n' c',.bool nb,.slice B' m' d']] w fun e w'=>e = .returned (.bool true) /\ Below w.heap.size w w':=by
 obtain ⟨W0,hW0,hB0,⟨q0,q1⟩,s0⟩:=Zi6 w 45 #[.bool na,.slice A n c,.bool nb,.slice B m d] 45 #[.bool na,.slice A' n' c',.bool nb,.slice B' m' d'];replace ha:=Za (ha.below hB0);replace hb:=Za (hb.below hB0);replace ha':=Za (ha'.below hB0);replace hb':=Za (hb'.below hB0);obtain ⟨a0,a1,a2,a3,-⟩:=q0.four;obtain ⟨b0,b1,b2,b3,-⟩:=q1.four;have hq:=Za (And.intro q0 q1);clear q0 q1;go_enter Tryz.func22,Tryz.ntmps22;go_wp2_with fail;refine (Zm0 na na A A' n c n' c' _ _ W0 ha.out ha'.out).mono ?_;rw [Zky];rintro e w1 ⟨rfl,hb1⟩;have hB1 : Below w.heap.size w w1:=hB0.trans (hb1.mono hB0.size);obtain ⟨q0,q1⟩:=hq.out;replace q0:=Zb hb1 q0;replace q1:=Zb hb1 q1;clear hW0 a0 a1 a2 a3 b0 b1 b2 b3 hq hB0;obtain ⟨a0,a1,a2,a3,-⟩:=q0.four;obtain ⟨b0,b1,b2,b3,-⟩:=q1.four;clear q0 q1;go_wp2_with fail;refine (Zm0 nb nb B B' m d m' d' _ _ w1 (hb.out.below hb1) (hb'.out.below hb1)).mono ?_;rw [Zky];rintro e w2 ⟨rfl,hb2⟩;have hB2 : Below w.heap.size w w2:=hB1.trans (hb2.mono hB1.size);go_wp2_with fail;go_ret;exact ⟨by simp,hB2⟩
structure DF where
 na : Bool
 la : List Nat
 nb : Bool
 lb : List Nat
def XL (w : World) (A : Option Addr) (n c : Nat) (ds : List DF) : Prop:=
 ds.length = n /\ n <= c /\ c <= maxLen /\ ∀ (k : Nat) (d : DF),ds[k]? = some d -> ∃ g o A1 n1 c1 B1 m1 d1,A = some ⟨g,o,none⟩ /\ At4 w g (o + k * 4) d.na A1 n1 c1 d.nb B1 m1 d1 /\ Lim w A1 n1 c1 d.la /\ Lim w B1 m1 d1 d.lb
def XM (w : World) (A : Option Addr) (n c : Nat) (D : List (List DF)) : Prop:=
 D.length = n /\ n <= c /\ c <= maxLen /\ ∀ (k : Nat) (ds : List DF),D[k]? = some ds -> ∃ g o A1 n1 c1,A = some ⟨g,o,none⟩ /\ w.cell? ⟨g,o + k,none⟩ = some (.slice A1 n1 c1) /\ XL w A1 n1 c1 ds
section
variable {w w' : World} {A : Option Addr} {n c : Nat} {ds : List DF} {D : List (List DF)}
theorem XL.below (h : XL w A n c ds) (hb : Below w.heap.size w w') : XL w' A n c ds:=by
 obtain ⟨h1,h2,h3,h4⟩:=h;refine ⟨h1,h2,h3,fun k d hd=>?_⟩;obtain ⟨g,o,A1,n1,c1,B1,m1,d1,e,a,b,b'⟩:=h4 k d hd;exact ⟨g,o,A1,n1,c1,B1,m1,d1,e,a.below hb,b.below hb,b'.below hb⟩
def dfQ (q : Rat) : DF:=⟨decide (q.num < 0),digits q.num.natAbs,false,digits q.den⟩
theorem FL.xl {qs : List Rat} (h : FL w A n c qs) : XL w A n c (qs.map dfQ):=by
 have hl:=h.len;refine ⟨by rw [List.length_map,hl],h.cap.1,h.cap.2,fun k d hd=>?_⟩;rw [List.getElem?_map] at hd;obtain ⟨q,hq,rfl⟩:=Option.map_eq_some_iff.1 hd
 have hk : k < n:=by have:=(List.getElem?_eq_some_iff.1 hq).1;omega
 obtain ⟨g,o,na,A1,n1,c1,nb,B,m,d,e1,e2,e3⟩:=h.at_ hk;rw [hq,Option.getD_some] at e3;have h1:=e3.1.1;have h2:=e3.2.1;have h3:=e3.2.2.2;rw [Int.natAbs_natCast] at h3
 have h4 : nb = false:=by rw [h2];exact decide_eq_false (by omega)
 subst h1 h4;exact ⟨g,o,_,_,_,_,_,_,e1,e2,e3.1.2.2,h3⟩
theorem MFL.xm {Q : List (List Rat)} (h : MFL w A n c Q) : XM w A n c (Q.map fun r=>r.map dfQ):=by
 refine ⟨by rw [List.length_map,h.1],h.2.1,h.2.2.1,fun k d hd=>?_⟩;rw [List.getElem?_map] at hd;obtain ⟨r,hr,rfl⟩:=Option.map_eq_some_iff.1 hd
 have hk : k < n:=by have:=(List.getElem?_eq_some_iff.1 hr).1;rw [h.1] at this;exact this
 obtain ⟨g,o,A1,n1,c1,e1,e3,e4⟩:=h.at_ hk;rw [hr,Option.getD_some] at e4;exact ⟨g,o,_,_,_,e1,e3,e4.xl⟩
theorem XL.nil (w : World) : XL w none 0 0 []:=⟨rfl,Nat.le_refl _,Nat.zero_le _,fun k d hd=>(by cases hd)⟩
theorem XM.nil (w : World) : XM w none 0 0 []:=⟨rfl,Nat.le_refl _,Nat.zero_le _,fun k d hd=>(by cases hd)⟩
end
theorem Zfp (A B : Option Addr) (n c d : Nat) (ds : List DF) (w : World) (ha : XL w A n c ds) (hb : XL w B n d ds) :
    Calls Tryz.prog 21 #[.slice A n c,.slice B n d] w fun e w'=>e = .returned (.bool true) /\ Below w.heap.size w w':=by
 have hmx : Tryz.prog.follows .mixedOrders = true:=by kernel_rfl
 have hl:=Za ha.1;have hc:=ha.2.1;have hcm:=ha.2.2.1;have hd:=hb.2.1;have hdm:=hb.2.2.1;unfold maxLen at hcm hdm;replace ha:=Za ha;replace hb:=Za hb
 have t0 : (((n : Int)) != (n : Int)) = false:=by simp
 go_enter Tryz.func21,Tryz.ntmps21;go_wp2_with fail
 go_loopg [5] n (fun k iv wr=>∃ i : Nat,i + k = n /\ iv = .int .i64 i /\ Below w.heap.size w wr)
 case atStart=>exact ⟨0,by omega,rfl,Below.refl _ _⟩
 case round =>
  obtain ⟨i,hik,rfl,hB⟩:=hrel
  cases gk with
  | zero =>
   obtain rfl : i = n:=by omega
   have t1 : decide ((i : Int) < (i : Int)) = false:=by simp
   go_wp2_with fail;go_ret;exact ⟨rfl,hB⟩
  | succ k' =>
   obtain rfl : k' = n - (i + 1):=by omega
   have hin : i < n:=by omega
   have t1 : decide ((i : Int) < (n : Int)) = true:=decide_eq_true (by omega)
   have bi : (i : Int) < (n : Int):=by omega
   obtain ⟨x,hx⟩:=Zcz (L:=ds) (i:=i) (by rw [hl.out];exact hin);obtain ⟨g,o,A1,n1,c1,B1,m1,d1,rfl,⟨r0,r1,r2,r3⟩,l1,l2⟩:=(ha.out.below hB).2.2.2 i x hx;obtain ⟨g',o',A1',n1',c1',B1',m1',d1',rfl,⟨s0,s1,s2,s3⟩,l1',l2'⟩:=(hb.out.below hB).2.2.2 i x hx;replace l1:=Za l1;replace l2:=Za l2;replace l1':=Za l1';replace l2':=Za l2';go_wp2_with fail;obtain ⟨X0,hX0⟩ : ∃ X,wr.drew = X:=⟨_,rfl⟩
   have hr1 : Below wr.heap.size wr X0:=by rw [<- hX0];exact Zf (Below.refl _ _) 1
   have hSv1 : Hid (∀ wx,Below wr.heap.size wr wx -> wx.cell? ⟨g,o + i * 4,none⟩ = some (.bool x.na) /\ wx.cell? ⟨g,o + i * 4 + 1,none⟩ = some (.slice A1 n1 c1) /\ wx.cell? ⟨g,o + i * 4 + 2,none⟩ = some (.bool x.nb) /\ wx.cell? ⟨g,o + i * 4 + 3,none⟩ = some (.slice B1 m1 d1) /\ wx.cell? ⟨g',o' + i * 4,none⟩ = some (.bool x.na) /\ wx.cell? ⟨g',o' + i * 4 + 1,none⟩ = some (.slice A1' n1' c1') /\ wx.cell? ⟨g',o' + i * 4 + 2,none⟩ = some (.bool x.nb) /\ wx.cell? ⟨g',o' + i * 4 + 3,none⟩ = some (.slice B1' m1' d1')):=Za (fun wx hbx=>⟨Zc hbx r0,Zc hbx r1,Zc hbx r2,Zc hbx r3,Zc hbx s0,Zc hbx s1,Zc hbx s2,Zc hbx s3⟩);refine wp_heldS [] hmx hSv1 (by rw [hX0];exact hr1) (fun hxs=>?_);rw [hX0];refine Zif 8 [0,1,2,3,4,5,6,7] rfl (by kernel_rfl) (hSv1.out _ hr1) ?_
   iterate 8 (refine tk1 (v:=?_) rfl (Or.inl ⟨by kernel_rfl,?_⟩) ?_;rotate_left;(· intro W2 hSw;(try dsimp only at hSw);go_simp;try with_reducible rfl);try simp only [Act.put,Zf0,Zfg,Zfv,putG_a,putG_s,putG_z])
   refine tk0 ?_;refine Ze (i:=8) rfl (by kernel_rfl) (fun K hK=>?_);go_simp;refine (Zhk x.na x.nb A1 B1 A1' B1' n1 c1 m1 d1 n1' c1' m1' d1' x.la x.lb X0 (l1.out.below hr1) (l2.out.below hr1) (l1'.out.below hr1) (l2'.out.below hr1)).mono ?_;rintro e w3 ⟨rfl,hb3⟩;have hr3:=hr1.trans (hb3.mono hr1.size);have hB3:=hB.trans (hr3.mono hB.size);refine hK.out _ _ (fun _=>hSv1.out _ hr3) ?_;clear hK K
   try simp only [Act.put,Zf0,Zfg,Zfv]
   refine Zfh 1 [9] rfl (by kernel_rfl) (hSv1.out _ hr3) ?_
   (refine tk1 (v:=?_) rfl (Or.inl ⟨by kernel_rfl,?_⟩) ?_;rotate_left;(· intro W2 _;go_simp;try with_reducible rfl);try simp only [Act.put,Zf0,Zfg,Zfv,putG_a,putG_s,putG_z])
   refine tk0 ?_;refine Zk (by kernel_rfl) ?_ _;refine OnlyNormal.normal ?_;clear hxs hSv1;go_wp2_with fail
   go_roundg (n - (i + 1))
   case measure=>omega
   case rel=>exact ⟨i + 1,by omega,by go_num,hB3⟩
theorem Zfc {rs : List RI} {rr ws : List Int} (h : Zce rs rr ws = 0) : rs.length <= 200 /\ (∀ r ∈ rs,r.n <= 12) /\ n0I rs ≠ 0 /\ ws.length = rs.length /\ rr.length = rs.length /\ Zhd 1 ws = false /\ Zhd (-1099511627776) rr = false /\ ∀ r ∈ rs,r.n = n0I rs /\ Zhd (-1099511627776) r.l = false:=by
 unfold Zce at h
 split at h
 ·cases h
 ·rename_i h1
  split at h
  ·rename_i h2
   simp only [Zjp,Bool.or_eq_true,decide_eq_true_eq,not_or,List.any_eq_true,not_exists,RI.long,not_and] at h1;simp only [sysB,Bool.and_eq_true,Bool.not_eq_true',decide_eq_false_iff_not,decide_eq_true_eq,List.all_eq_true,Zn3] at h2;obtain ⟨a1,a2,a3,a4,a5,a6⟩:=h2;exact ⟨by omega,fun r hr=>by have:=h1.2 r hr;omega,a1,a2,a3,a4,a5,a6⟩
  ·cases h
theorem makeI64 {P : Program} (t e : TypeId) {i : TypeInfo} (ht : P.underlying t = some (.slice e)) (hi : P.info? e = some i) (hz : i.zero = some (.int .i64 0)) (hs : i.size = 1) (hb : i.bytes = 8)
    (x : Int) (n : Nat) (hx : x = n) (hn : n <= 1000000000000) (W : World) :
    (Instr.makeSlice t (.int .i64 x) (.int .i64 x)).run P W = .ok (.slice (some ⟨W.heap.size,0,none⟩) n n) (W.alloc (.cells (madeCells #[.int .i64 0] n) e)):=by
 subst hx;have hr:=run_make (P:=P) W t e i _ ht hi hz .i64 .i64 n n (by omega) (by omega) (by rw [hb];omega) (by omega);simp only [Int.toNat_natCast] at hr;rw [hr,hs,Nat.mul_one]
 rfl
theorem LimI.zeros {w : World} {g : Nat} {t : TypeId} {n : Nat} (h : Blk w g t (madeCells #[.int .i64 0] n)) (hn : n <= maxLen) : LimI w (some ⟨g,0,none⟩) n n (List.replicate n 0):=by
 refine ⟨by simp,Nat.le_refl _,hn,fun x hx=>?_,fun _=>⟨g,0,rfl,fun k hk=>?_⟩⟩
 ·rw [List.eq_of_mem_replicate hx];unfold I64;decide
 ·rw [Nat.zero_add,h.cell,List.getElem?_replicate,if_pos hk]
  unfold madeCells
  simp [hk,Nat.mod_one]
theorem info64' : (Tryz.prog.info? 2).map (fun i=>(i.zero,i.size,i.bytes)) = some (some (.int .i64 0),1,8):=by kernel_rfl
theorem Zon (A C : Option Addr) (n c k e0 : Nat) (rs : List RI) (ws : List Int) (w : World) (h : MIL w A n c rs) (hw : LimI w C k e0 ws) (E : Int) (hE : Zce rs (List.replicate (min n 200) 0) ws = E) (h0 : E ≠ 0) :
    Calls Tryz.prog 16 #[.slice A n c,.slice C k e0] w fun e w'=>e = .returned (.tuple #[.slice none 0 0,.int .i64 E]) /\ Below w.heap.size w w':=by
 obtain ⟨iI,ji,jz0,jz1,jz2⟩:=info_parts info64';have hn:=Nat.le_trans h.2.1 h.2.2.1;unfold maxLen at hn
 have hmin : min (n : Int) 200 = ((min n 200 : Nat) : Int):=by omega
 have hk : min n 200 <= 200:=by omega
 obtain ⟨q,hq⟩ : ∃ q,min n 200 = q:=⟨_,rfl⟩;rw [hq] at hmin hk hE;have t1 : decide (E ≠ 0) = true:=decide_eq_true h0
 have t1' : (E != 0) = true:=by simpa using h0
 have t1'' : (E == 0) = false:=by simpa using h0
 have hmk:=makeI64 (P:=Tryz.prog) 34 2 Tryz.underlying34 ji jz0 jz1 jz2 (q : Int) q rfl (by omega) w;obtain ⟨W0,hW0,hB0,q0,s0⟩:=Zbp w 2 (madeCells #[.int .i64 0] q);have hC:=Za (Zgp A (some ⟨w.heap.size,0,none⟩) C n c q q k e0 rs (List.replicate q 0) ws W0 (h.below hB0) (LimI.zeros q0 (by unfold maxLen;omega)) (hw.below hB0) E hE);clear q0 h hw hE hq;replace h0:=Za h0;go_enter Tryz.func16,Tryz.ntmps16;go_wp2_with fail;(try rw [hW0]);refine hC.out.mono ?_;rintro e w1 ⟨rfl,hb1⟩;go_wp2_with fail;go_returns;exact ⟨rfl,hB0.trans (hb1.mono hB0.size)⟩
end Go.Proofs.YtigdclhagmnopaaGreat
