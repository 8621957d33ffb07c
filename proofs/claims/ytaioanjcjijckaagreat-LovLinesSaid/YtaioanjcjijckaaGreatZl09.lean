/- Package wide: Cmp, and the order of two numbers. Package -/
import Derived.Test.YtaioanjcjijckaaGreatZl08
set_option maxRecDepth 100000
set_option maxHeartbeats 1000000
set_option linter.unusedSimpArgs false
set_option linter.unusedVariables false
namespace Go.Proofs.YtaioanjcjijckaaGreat
open Go.RowKit
attribute [local go_sem] Zg
def Zaw (a b : Int) : Int:=if a < b then -1 else if b < a then 1 else 0
theorem Zbc (a b : Nat) : Za8 (digits a) (digits b) = Zaw a b:=by
 unfold Za8 Zaw;rw [Zf,Zf];have h1 : a <= b -> (digits a).length <= (digits b).length:=Zr;have h2 : b <= a -> (digits b).length <= (digits a).length:=Zr
 (repeat' split) <;> first | rfl | omega
theorem to_ok (na nb : Bool) (A B : Option Addr) (n c m d : Nat) (za zb : Int) (w : World) (ha : Wd w na A n c za) (hb : Wd w nb B m d zb) :
    Calls Tryz.prog 195 #[.agg #[.bool na,.slice A n c],.agg #[.bool nb,.slice B m d]] w fun e w'=>e = .returned (.int .i64 (Zaw za zb)) /\ Below w.heap.size w w':=by
 have hLa:=ha.lim;have hLb:=hb.lim;have hna:=ha.1;have hnb:=hb.1
 have hB0 : ∀ X Y : Obj,Below w.heap.size w ((w.alloc X).alloc Y):=fun X Y=>((Below.refl w.heap.size w).alloc (Nat.le_refl _) _).alloc (by simp) _
 have hB0:=Za hB0;have HC1:=Za (Zbc za.natAbs zb.natAbs);have HC2:=Za (Zbc zb.natAbs za.natAbs)
 have hP : Hid (∀ (e : Ending) (w' : World),(e = .returned (.int .i64 (Za8 (digits za.natAbs) (digits zb.natAbs))) /\ Below w.heap.size w w') -> (na = false /\ nb = false) -> e = .returned (.int .i64 (Zaw za zb)) /\ Below w.heap.size w w'):=fun e w' ⟨h1,h2⟩ ⟨h3,h4⟩=>by
  subst h3 h4
  have h5 : ¬ za < 0:=by intro h;simp [h] at hna
  have h6 : ¬ zb < 0:=by intro h;simp [h] at hnb
  refine ⟨?_,h2⟩;rw [h1,HC1.out,show ((za.natAbs : Nat) : Int) = za by omega,show ((zb.natAbs : Nat) : Int) = zb by omega]
 have hN : Hid (∀ (e : Ending) (w' : World),(e = .returned (.int .i64 (Za8 (digits zb.natAbs) (digits za.natAbs))) /\ Below w.heap.size w w') -> (na = true /\ nb = true) -> e = .returned (.int .i64 (Zaw za zb)) /\ Below w.heap.size w w'):=fun e w' ⟨h1,h2⟩ ⟨h3,h4⟩=>by
  subst h3 h4
  have h5 : za < 0:=by by_cases h : za < 0;exact h;simp [h] at hna
  have h6 : zb < 0:=by by_cases h : zb < 0;exact h;simp [h] at hnb
  refine ⟨?_,h2⟩;rw [h1,HC2.out]
  congr 2
  unfold Zaw
  split <;> split <;> (try split) <;> omega
 have hM : Hid (∀ b,na = b -> nb = !b -> Ending.returned (.int .i64 (if b then -1 else 1)) = .returned (.int .i64 (Zaw za zb))):=fun b h3 h4=>by
  refine Zfu ?_;unfold Zaw
  cases b
  ·have h5 : ¬ za < 0:=by intro h;simp [h,h3] at hna
   have h6 : zb < 0:=by by_cases h : zb < 0;exact h;simp [h,h4] at hnb
   rw [if_neg (show ¬ za < zb by omega),if_pos (show zb < za by omega)];rfl
  ·have h5 : za < 0:=by by_cases h : za < 0;exact h;simp [h,h3] at hna
   have h6 : ¬ zb < 0:=by intro h;simp [h,h4] at hnb
   rw [if_pos (show za < zb by omega)];rfl
 clear ha hb hna hnb
 cases na <;> cases nb
 ·go_enter Tryz.func195,Tryz.ntmps195
  go_wp2_with (go_at_call 154;((with_reducible refine (Zbf _ _ _ _ _ _ _ _ _ ((hLa.alloc _).alloc _) ((hLb.alloc _).alloc _)).mono ?_));rintro e w1 ⟨rfl,hb1⟩);go_ret;exact hP.out _ _ ⟨rfl,(hB0.out _ _).trans (hb1.mono (by simp;omega))⟩ (by simp)
 ·go_enter Tryz.func195,Tryz.ntmps195
  go_wp2_with fail;go_ret;exact ⟨hM.out false rfl rfl,hB0.out _ _⟩
 ·go_enter Tryz.func195,Tryz.ntmps195
  go_wp2_with fail;go_ret;exact ⟨hM.out true rfl rfl,hB0.out _ _⟩
 ·go_enter Tryz.func195,Tryz.ntmps195
  go_wp2_with (go_at_call 154;((with_reducible refine (Zbf _ _ _ _ _ _ _ _ _ ((hLb.alloc _).alloc _) ((hLa.alloc _).alloc _)).mono ?_));rintro e w1 ⟨rfl,hb1⟩);go_ret;exact hN.out _ _ ⟨rfl,(hB0.out _ _).trans (hb1.mono (by simp;omega))⟩ (by simp)
theorem Zmd (na nb : Bool) (A B : Option Addr) (n c m d : Nat) (za zb : Int) (w : World) (ha : Wd w na A n c za) (hb : Wd w nb B m d zb) :
    Calls Tryz.prog 129 #[.agg #[.bool na,.slice A n c],.agg #[.bool nb,.slice B m d]] w fun e w'=>e = .returned (.tuple #[.int .i64 (Zaw za zb),.int .i64 0]) /\ Below w.heap.size w w':=by
 have hLa:=ha.lim;have hLb:=hb.lim
 have hB0 : ∀ X Y Z : Obj,Below w.heap.size w (((w.alloc X).alloc Y).alloc Z):=fun X Y Z=>(((Below.refl w.heap.size w).alloc (Nat.le_refl _) _).alloc (by simp) _).alloc (by simp;omega) _
 have hW : ∀ X Y t,WL (((w.alloc X).alloc Y).alloc (.cells #[.bool na,.slice A n c,.bool nb,.slice B m d] t)) (some ⟨w.heap.size + 1 + 1,0,none⟩) 2 2 [⟨na,A,n,c,digits za.natAbs⟩,⟨nb,B,m,d,digits zb.natAbs⟩]:=fun X Y t=>by
  have:=WL.two (neg:=na) (neg':=nb) ((hLa.alloc X).alloc Y) ((hLb.alloc X).alloc Y) t;simp only [World.size_alloc] at this;exact this
 have hW:=Za hW;have hB0:=Za hB0;have hgood : Hid (okW na (digits za.natAbs) = true /\ okW nb (digits zb.natAbs) = true):=⟨ha.ok,hb.ok⟩
 have hmf : ∀ (fn : Fn) (first cap : Array Value) (w : World),(Instr.makeFunc fn first cap).run Tryz.prog w = .ok (.func fn first cap) w:=fun _ _ _ _=>rfl
 have HA:=Za ha;have HB:=Za hb;clear ha hb;go_enter Tryz.func129,Tryz.ntmps129;go_wp2_with fail;refine (Zbs (hW.out _ _ _) (by have:=hgood.out;simp [WE.ok,this])).mono ?_;rintro e w1 ⟨rfl,hb1⟩;obtain ⟨hc1,hf1⟩:=Zbd hb1
 have hz1 : w.heap.size + 1 + 1 < w1.heap.size:=by have:=hb1.size;simp at this;omega
 have hB1 : Below w.heap.size w w1:=(hB0.out _ _ _).trans (hb1.mono (by simp;omega));go_wp2_with fail;refine (to_ok na nb A B n c m d za zb _ (HA.out.below hB1) (HB.out.below hB1)).mono ?_;rintro e w2 ⟨rfl,hb2⟩;go_wp2_with fail
 go_ret2
 exact ⟨rfl,hB1.trans (hb2.mono hB1.size)⟩
def Zg1 (w : World) : Value -> List Nat
 | .slice (some ad) n _=>(List.range n).map fun k=>match w.cell? (ad.add k) with | some (.int _ x)=>x.toNat | _=>0
 | _=>[]
theorem Lim.mem {w : World} {A : Option Addr} {n c : Nat} {l : List Nat} (h : Lim w A n c l) : Zg1 w (.slice A n c) = l:=by
 rcases A with _ | ad
 ·have hn : n = 0:=by
    rcases Nat.eq_zero_or_pos n with h0 | h0
    ·exact h0
    ·obtain ⟨b,o,e,_⟩:=h.2.2.2.2 h0
     cases e
  subst hn;exact (List.eq_nil_of_length_eq_zero h.len).symm
 ·unfold Zg1
  apply List.ext_getElem (by simp [h.len])
  intro i h1 h2;obtain ⟨b,o,e,hc⟩:=h.at_ (k:=i) (by rw [<- h.len];exact h2)
  injection e with e
  subst e;simp only [List.getElem_map,List.getElem_range,Zg,hc]
  simp [List.getElem?_eq_getElem h2]
def GcdR (w : World) (t : TypeId) (G : Nat) (xv yv : Value) (wr : World) : Prop:=
 ∃ (u v : Nat) (A : Option Addr) (n c : Nat) (B : Option Addr) (m d : Nat),xv = .slice A n c /\ yv = .slice B m d /\ Lim wr A n c (digits u) /\ Lim wr B m d (digits v) /\ n <= 4096 /\ m <= 4096 /\ Nat.gcd u v = G /\ Blk wr (w.heap.size + 1 + 1) t #[.bool false,.slice none 0 0] /\ Below w.heap.size w wr
theorem Zi5 (na nb : Bool) (A B : Option Addr) (n c m d : Nat) (za zb : Int) (w : World) (ha : Wd w na A n c za) (hb : Wd w nb B m d zb) :
    Calls Tryz.prog 179 #[.agg #[.bool na,.slice A n c],.agg #[.bool nb,.slice B m d]] w (ResW w (Nat.gcd za.natAbs zb.natAbs : Nat)):=by
 have hLa:=ha.lim;have hLb:=hb.lim;have hn:=ha.2.1;have hm:=hb.2.1
 have hB0 : ∀ X Y Z V : Obj,Below w.heap.size w ((((w.alloc X).alloc Y).alloc Z).alloc V):=fun X Y Z V=>((((Below.refl w.heap.size w).alloc (Nat.le_refl _) _).alloc (by simp) _).alloc (by simp;omega) _).alloc (by simp;omega) _
 have hW : ∀ X Y Z t,WL ((((w.alloc X).alloc Y).alloc Z).alloc (.cells #[.bool na,.slice A n c,.bool nb,.slice B m d] t)) (some ⟨w.heap.size + 1 + 1 + 1,0,none⟩) 2 2 [⟨na,A,n,c,digits za.natAbs⟩,⟨nb,B,m,d,digits zb.natAbs⟩]:=fun X Y Z t=>by
  have:=WL.two (neg:=na) (neg':=nb) (((hLa.alloc X).alloc Y).alloc Z) (((hLb.alloc X).alloc Y).alloc Z) t;simp only [World.size_alloc] at this;exact this
 have hW:=Za hW;have hB0:=Za hB0;have hgood : Hid (okW na (digits za.natAbs) = true /\ okW nb (digits zb.natAbs) = true):=⟨ha.ok,hb.ok⟩;clear ha hb
 generalize za.natAbs = va at *
 generalize zb.natAbs = vb at *
 obtain ⟨G,hG⟩ : ∃ G,Nat.gcd va vb = G:=⟨_,rfl⟩;rw [hG];replace hG:=Za hG;go_enter Tryz.func179,Tryz.ntmps179;go_wp2_with fail;refine (Zbs (hW.out _ _ _ _) (by have:=hgood.out;simp [WE.ok,this])).mono ?_;rintro e w1 ⟨rfl,hb1⟩;obtain ⟨hc1,hf1⟩:=Zbd hb1
 have hz1 : w.heap.size + 1 + 1 + 1 < w1.heap.size:=by have:=hb1.size;simp at this;omega
 have hB1 : Below w.heap.size w w1:=(hB0.out _ _ _ _).trans (hb1.mono (by simp;omega))
 have g1 : w1.cell? ⟨w.heap.size,1,none⟩ = some (.slice A n c):=by simp [hc1,go_sem]
 have g2 : w1.cell? ⟨w.heap.size + 1,1,none⟩ = some (.slice B m d):=by simp [hc1,go_sem]
 have g7 : Blk w1 (w.heap.size + 1 + 1) 27 #[.bool false,.slice none 0 0]:=by
  refine Zb hb1 (Blk.alloc ?_ _);have:=Blk.new ((w.alloc (.cells #[.bool na,.slice A n c] 27)).alloc (.cells #[.bool nb,.slice B m d] 27)) 27 #[.bool false,.slice none 0 0];simp only [World.size_alloc] at this;exact this
 have hLa1:=hLa.below hB1;have hLb1:=hLb.below hB1;replace g7:=Za g7;clear hc1 hf1;go_wp2_with fail
 go_region_held3 (fun w'=>w'.cell? ⟨w.heap.size,1,none⟩ = some (.slice A n c) /\ w'.cell? ⟨w.heap.size + 1,1,none⟩ = some (.slice B m d))
  (((try dsimp only);(repeat' apply And.intro);all_goals (first | go_keep | (simp [*,go_sem];done))))
  ((go_at_call 204;refine (Zfq _ _ _ _ _ (by exact hLa1) (by omega)).mono ?_;rintro e w2 ⟨v2,rfl,hO2,hb2⟩;obtain ⟨A2,c2,hv2,hL2⟩:=hO2.lim;rw [hLa1.len] at hv2 hL2;subst hv2;clear hO2;have k1:=Zc hb2 g1;have k2:=Zc hb2 g2))
 have hb2':=Zq hb2;have hB2 : Below w.heap.size w w2:=hB1.trans (hb2'.mono hB1.size);have m7 : Hid (Blk w2 (w.heap.size + 1 + 1) 27 #[.bool false,.slice none 0 0]):=Zb hb2' g7.out;have hLb2:=hLb1.below hb2';go_wp2_with fail
 go_loopw [7,8] (fun xv yv wr=>GcdR w 27 G xv yv wr) (fun _ yv wr=>val (Zg1 wr yv))
 case atStart=>exact ⟨va,vb,_,_,_,_,_,_,rfl,rfl,hL2,hLb2,hn,hm,hG.out,m7.out,hB2⟩
 case round =>
  obtain ⟨u,v,A5,n5,c5,B5,m5,d5,rfl,rfl,hLu,hLv,hn5,hm5,hg,hb7,hBr⟩:=hrel;replace hg:=Za hg;replace hb7:=Za hb7
  by_cases hm0 : 0 < m5
  ·have hv0 : 0 < v:=by rw [<- hLv.len] at hm0;exact length_digits_pos.1 hm0
   have hmem:=Za hLv.mem;go_wp2_with fail;refine (Zdk _ _ _ _ _ _ u v _ hLu hLv (by omega) hv0).mono ?_;rintro e w5 ⟨A6,n6,c6,B6,m6,d6,rfl,hLq,hLr,hb5⟩;go_wp2_with fail
   go_roundw
   case rel=>exact ⟨v,u % v,_,_,_,_,_,_,rfl,rfl,hLv.below hb5,hLr,hm5,by have:=Zr (Nat.le_of_lt (Nat.mod_lt u hv0));rw [hLr.len,hLv.len] at this;omega,by rw [<- hg.out,Nat.gcd_comm u v,Nat.gcd_rec v u,Nat.gcd_comm],Zb hb5 hb7.out,hBr.trans (hb5.mono hBr.size)⟩
   case measure=>simp only [hmem.out,hLr.mem,Zf];exact Nat.mod_lt u hv0
  ·obtain rfl : m5 = 0:=by omega
   have hv0 : v = 0:=by
    rcases Nat.eq_zero_or_pos v with h | h
    ·exact h
    ·have:=length_digits_pos.2 h;rw [hLv.len] at this;omega
   subst hv0
   have hgu : Hid (u = G):=by have:=hg.out;rw [Nat.gcd_zero_right] at this;exact this
   have g8:=hb7.out;have g3:=g8.cell 0;have g4:=g8.cell 1;have g5:=g8.frozen 0;have g6:=g8.frozen 1
   simp at g3 g4
   clear g8;go_wp2_with fail;refine (Zfq _ _ _ _ _ hLu (by omega)).mono ?_;rintro e w5 ⟨v5,rfl,hO5,hb5⟩;obtain ⟨A6,c6,hv6,hL6⟩:=hO5.lim;rw [hLu.len] at hv6 hL6;subst hv6;go_wp2_with fail;refine (Za4 _ _ _ _ _ _ hL6).mono ?_;rintro e w6 ⟨hb6,neg6,A7,n7,c7,code7,rfl,hR7⟩;have hB6 : Below w.heap.size w w6:=(hBr.trans (hb5.mono hBr.size)).trans (hb6.mono (Nat.le_trans hBr.size hb5.size));have m8:=Zb hb6 (Zb hb5 hb7.out);have m3:=m8.cell 0;have m4:=m8.cell 1;have m5:=m8.frozen 0;have m6:=m8.frozen 1
   simp at m3 m4
   replace m8:=Za m8;go_wp2_with fail
   have HZ : sg false (val (digits u)) = (G : Int):=by rw [Zf,hgu.out];rfl
   refine bodyPost_ret (v:=.tuple #[.agg #[.bool neg6,.slice A7 n7 c7],.int .i64 code7]) (by simp [results,Tryz.results179,go_sem,m3,m4]) rfl ?_;exact ResW.box (HZ ▸ hR7) hB6 (by omega) m8.out
theorem Gcd_bad (na nb : Bool) (A B : Option Addr) (n c m d : Nat) (la lb : List Nat) (w : World) (hLa : Lim w A n c la) (hLb : Lim w B m d lb) (hbad : (okW na la && okW nb lb) = false) :
    Calls Tryz.prog 179 #[.agg #[.bool na,.slice A n c],.agg #[.bool nb,.slice B m d]] w (BadW w):=by
 have hB0 : ∀ X Y Z V : Obj,Below w.heap.size w ((((w.alloc X).alloc Y).alloc Z).alloc V):=fun X Y Z V=>((((Below.refl w.heap.size w).alloc (Nat.le_refl _) _).alloc (by simp) _).alloc (by simp;omega) _).alloc (by simp;omega) _
 have hW : ∀ X Y Z t,WL ((((w.alloc X).alloc Y).alloc Z).alloc (.cells #[.bool na,.slice A n c,.bool nb,.slice B m d] t)) (some ⟨w.heap.size + 1 + 1 + 1,0,none⟩) 2 2 [⟨na,A,n,c,la⟩,⟨nb,B,m,d,lb⟩]:=fun X Y Z t=>by
  have:=WL.two (neg:=na) (neg':=nb) (((hLa.alloc X).alloc Y).alloc Z) (((hLb.alloc X).alloc Y).alloc Z) t;simp only [World.size_alloc] at this;exact this
 have hW:=Za hW;have hB0:=Za hB0;have hbad:=Za hbad;go_enter Tryz.func179,Tryz.ntmps179;go_wp2_with fail;refine (Zqm (hW.out _ _ _ _) (by have:=hbad.out;simpa [WE.ok] using this)).mono ?_;rintro e w1 ⟨rfl,hb1⟩;obtain ⟨hc1,hf1⟩:=Zbd hb1
 have hz1 : w.heap.size + 1 + 1 + 1 < w1.heap.size:=by have:=hb1.size;simp at this;omega
 have hB1 : Below w.heap.size w w1:=(hB0.out _ _ _ _).trans (hb1.mono (by simp;omega));go_wp2_with fail
 have hg : w1.cell? ⟨w.heap.size + 1 + 1,0,none⟩ = some (.bool false):=by simp [hc1,go_sem]
 have hg' : w1.cell? ⟨w.heap.size + 1 + 1,1,none⟩ = some (.slice none 0 0):=by simp [hc1,go_sem]
 refine bodyPost_ret (v:=.tuple #[.agg #[.bool false,.slice none 0 0],.int .i64 8]) (by simp [results,Tryz.results179,go_sem,hg,hg']) rfl ?_;exact ⟨rfl,(hB1.setCell (p:=⟨w.heap.size + 1 + 1,0,none⟩) (by simp;omega) _).setCell (p:=⟨w.heap.size + 1 + 1,1,none⟩) (by simp;omega) _⟩
theorem fdm {z d q r : Int} (h : z = d * q + r) (hr : (0 <= r /\ r < d) \/ (d < r /\ r <= 0)) : Int.fdiv z d = q /\ Int.fmod z d = r:=by
 rcases hr with ⟨h1,h2⟩ | ⟨h1,h2⟩
 ·exact (Int.fdiv_fmod_unique (by omega)).2 ⟨by omega,h1,h2⟩
 ·exact (Int.fdiv_fmod_unique' (by omega)).2 ⟨by omega,by omega,h2⟩
theorem Zfo (na nb : Bool) (U V : Nat) (hV : 0 < V) (h : U % V = 0 \/ na = nb) : Int.fdiv (sg na U) (sg nb V) = sg (na != nb) (U / V : Nat) /\ Int.fmod (sg na U) (sg nb V) = sg nb (U % V : Nat):=by
 have h1:=Nat.div_add_mod U V;have h2:=Nat.mod_lt U hV
 generalize U / V = x at *
 generalize U % V = y at *
 subst h1
 have e : ((V * x + y : Nat) : Int) = (V : Int) * x + y:=by push_cast;rfl
 apply fdm
 ·cases na <;> cases nb <;> simp only [sg,e] <;> simp at h ⊢ <;> grind
 ·cases na <;> cases nb <;> simp [sg] at h ⊢ <;> omega
theorem Zkf (na nb : Bool) (U V : Nat) (hV : 0 < V) (hy : 0 < U % V) (h : na ≠ nb) : Int.fdiv (sg na U) (sg nb V) = sg (na != nb) (U / V + 1 : Nat) /\ Int.fmod (sg na U) (sg nb V) = sg nb (V - U % V : Nat):=by
 have h1:=Nat.div_add_mod U V;have h2:=Nat.mod_lt U hV
 generalize U / V = x at *
 generalize U % V = y at *
 subst h1
 have e : ((V * x + y : Nat) : Int) = (V : Int) * x + y:=by push_cast;rfl
 have e2 : ((V - y : Nat) : Int) = (V : Int) - y:=by omega
 apply fdm
 ·cases na <;> cases nb <;> simp only [sg,e,e2] <;> simp at h ⊢ <;> grind
 ·cases na <;> cases nb <;> simp [sg] at h ⊢ <;> omega
end Go.Proofs.YtaioanjcjijckaaGreat
