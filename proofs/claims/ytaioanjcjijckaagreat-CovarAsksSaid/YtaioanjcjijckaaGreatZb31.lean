/- Reference of covar: solve. Reference of covar: zeros, -/
import Derived.Deep.LoopGhost
import Derived.Test.YtaioanjcjijckaaGreatZb30
set_option maxRecDepth 100000
set_option maxHeartbeats 16000000
set_option linter.unusedSimpArgs false
set_option linter.unusedVariables false
namespace Go.Proofs.YtaioanjcjijckaaGreat
open Go.RowKit
attribute [local go_sem] Zf
theorem Zik {w:World} {t:TypeId} {g:Nat} {A:Option Addr} {n c:Nat} (h:Blk w g t #[.slice A n c]):Reads w (g+1) 1 (some ⟨g,0,none⟩) 1 (Zan [⟨A,n,c⟩]):=
 ⟨rfl,fun _=>⟨_,rfl,Nat.lt_succ_self _,fun j u hu=>by
  rw [Zf,Nat.zero_add,h.cell]
  simpa [Zan] using hu⟩⟩
def Zap (Q:List (List Rat)) (xs:List Rat) (n:Nat):List (List Rat):=(List.range n).map fun i=>Q[i]?.getD [] ++ [xs[i]?.getD 0]
section
variable {Q:List (List Rat)} {xs:List Rat} {n:Nat}
theorem Zd6:(Zap Q xs n).length=n:=by simp [Zap]
theorem Zj5 {i:Nat} (h:i < n):(Zap Q xs n)[i]?.getD []=Q[i]?.getD [] ++ [xs[i]?.getD 0]:=by simp [Zap,h]
theorem Zsk {i:Nat} (h:i < n):(Zap Q xs n)[i]?=some (Q[i]?.getD [] ++ [xs[i]?.getD 0]):=by simp [Zap,h]
theorem Zij (hm:∀ i,i < n->(Q[i]?.getD []).length=n) {i:Nat} (h:i < n):((Zap Q xs n)[i]?.getD []).length=n+1:=by rw [Zj5 h,List.length_append,hm i h];rfl
theorem Zd5 (hm:∀ i,i < n->(Q[i]?.getD []).length=n) {i k:Nat} (h:i < n) (hk:k < n):Zg (Zap Q xs n) i k=Zg Q i k:=by
 unfold Zg;rw [Zj5 h,List.getElem?_append_left (by rw [hm i h];exact hk)]
theorem Zfd (hm:∀ i,i < n->(Q[i]?.getD []).length=n) {i:Nat} (h:i < n):Zg (Zap Q xs n) i n=xs[i]?.getD 0:=by
 unfold Zg;rw [Zj5 h,List.getElem?_append_right (by rw [hm i h];exact Nat.le_refl _),hm i h,Nat.sub_self];rfl
theorem Zkk (hm:∀ i,i < n->(Q[i]?.getD []).length=n) {i k:Nat} (h:i < n) (hk:n < k):Zg (Zap Q xs n) i k=0:=by
 unfold Zg;rw [List.getElem?_eq_none (by rw [Zij hm h];omega)];rfl
end
section
variable {R:List (List Rat)} {n m:Nat}
theorem Zoa (hrow:∀ i,i < R.length->(R[i]?.getD []).length=m) {r c i j:Nat} (hi:i < R.length) (hr:r < R.length) (hj:c <= j) :
    Zg (Za8 R r c) i j=if i <= r then Zg R i j else Zg R i j - Zg R i c / Zg R r c * Zg R r j:=by
 unfold Za8;show ((List.map _ (List.range R.length))[i]?.getD [])[j]?.getD 0=_;rw [List.getElem?_map,List.getElem?_range hi];simp only [Option.map_some,Option.getD_some]
 by_cases h1:i <= r
 ·rw [if_pos h1,if_pos h1];rfl
 ·rw [if_neg h1,if_neg h1]
  unfold Zkz;rw [List.getElem?_map]
  by_cases hjl:j < (R[i]?.getD []).length
  ·rw [List.getElem?_range hjl]
   simp only [Option.map_some,Option.getD_some];rw [if_neg (by omega)];rfl
  ·rw [List.getElem?_eq_none (l:=List.range _) (by simpa using hjl)]
   simp only [Option.map_none,Option.getD_none]
   have e1:Zg R i j=0:=by unfold Zg;rw [List.getElem?_eq_none (by omega)];rfl
   have e2:Zg R r j=0:=by unfold Zg;rw [List.getElem?_eq_none (by rw [hrow i hi] at hjl;rw [hrow r hr];omega)];rfl
   rw [e1,e2];grind
theorem Znl (hrow:∀ i,i < R.length->(R[i]?.getD []).length=m) {r c i:Nat} (hi:i < R.length):((Za8 R r c)[i]?.getD []).length=m:=by
 rw [Zha hi]
 split
 ·exact hrow i hi
 ·unfold Zkz
  rw [List.length_map,List.length_range];exact hrow i hi
theorem Zif (hrow:∀ i,i < R.length->(R[i]?.getD []).length=m):∀ t i,i < R.length->((Zcl R t)[i]?.getD []).length=m
 | 0,i,hi=>hrow i hi
 | t+1,i,hi=>Znl (R:=Zcl R t) (fun i hi=>Zif hrow t i (by rw [Ze5] at hi;exact hi)) (by rw [Ze5];exact hi)
theorem Zd4 (hl:R.length=n) (hrow:∀ i,i < R.length->(R[i]?.getD []).length=m):∀ t,t <= n->∀ i k,i < n->min t i <= k->Zg (Zcl R t) i k=Zl (Zg R) t i k
 | 0,_,_,_,_,_=>rfl
 | t+1,ht,i,k,hi,hk=>by
  show Zg (Za8 (Zcl R t) t t) i k=if t < i then _ else _
  have hL:(Zcl R t).length=n:=by rw [Ze5,hl]
  have hR:∀ i,i < (Zcl R t).length->((Zcl R t)[i]?.getD []).length=m:=fun i hi=>Zif hrow t i (by rw [Ze5] at hi;exact hi)
  by_cases hti:t < i
  ·have htk:t+1 <= k:=by omega
   rw [if_pos hti,Zoa hR (by rw [hL];exact hi) (by rw [hL];omega) (by omega),if_neg (by omega),
    Zd4 hl hrow t (by omega) i k hi (by omega),Zd4 hl hrow t (by omega) i t hi (by omega),Zd4 hl hrow t (by omega) t t (by omega) (by omega),Zd4 hl hrow t (by omega) t k (by omega) (by omega)]
  ·rw [if_neg hti]
   have hik:i <= k:=by omega
   have:Zg (Za8 (Zcl R t) t t) i k=Zg (Zcl R t) i k:=by
    unfold Zg;rw [Zha (by rw [hL];exact hi),if_pos (by omega)]
   rw [this];exact Zd4 hl hrow t (by omega) i k hi (by omega)
end
def Zrf (E X:Nat->Nat->Rat) (n:Nat):Prop:=
 (∀ i,i < n->X i n=upS E X i n n / E i i)/\(∀ i,SmN 300 300 (X i n))/\∀ i t,SmN 400 400 (upS E X i n t)
def Zjx (B0:Nat) (q:Rat) (ca al:Nat) (i:Nat) (v:Value) (w:World):Prop:=
 if i=ca then ∃ na A n c nb B m d,v=.agg #[.bool na,.slice A n c,.bool nb,.slice B m d]/\Fr w na A n c nb B m d q
 else if i=al then ∃ g,v=.pointer (some ⟨g,0,none⟩)/\B0 <= g/\Blk w g 29 #[.bool false,.slice none 0 0,.bool false,.slice none 0 0]
 else True
theorem Zo1 {B0:Nat} {q:Rat} {ca al i:Nat} {v:Value} {w w':World} (hb:Below w.heap.size w w') (h:Zjx B0 q ca al i v w):Zjx B0 q ca al i v w':=by
 unfold Zjx at h ⊢
 split at h
 ·rename_i h1;rw [if_pos h1]
  obtain ⟨na,A,n,c,nb,B,m,d,e,hf⟩:=h;exact ⟨na,A,n,c,nb,B,m,d,e,hf.below hb⟩
 ·rename_i h1;rw [if_neg h1]
  split at h
  ·rename_i h4;rw [if_pos h4]
   obtain ⟨g,e,h5,h6⟩:=h;exact ⟨g,e,h5,Zc hb h6⟩
  ·rename_i h4;rw [if_neg h4];trivial
def FTail (t:TypeId) (w:World) (g n i:Nat) (x:Nat->Rat):Prop:=∃ es:List FE,Blk w g t (Zag es)/\es.length=n/\∀ (j:Nat) (e:FE),i <= j->es[j]?=some e->e.in_ w/\e.q=x j
section
variable {t:TypeId} {w w':World} {g n i:Nat} {x:Nat->Rat}
theorem FTail.new (t:TypeId) (w:World) (n:Nat) (x:Nat->Rat):FTail t (w.alloc (.cells (Zag (List.replicate n Za0)) t)) w.heap.size n n x:=
 ⟨_,Blk.new _ _ _,by simp,fun j e h1 h2=>by rw [List.getElem?_eq_none (by simp;exact h1)] at h2;cases h2⟩
theorem FTail.below (h:FTail t w g n i x) (hb:Below w.heap.size w w'):FTail t w' g n i x:=by
 obtain ⟨es,h1,h2,h3⟩:=h;exact ⟨es,Zc hb h1,h2,fun j e hj he=>⟨(h3 j e hj he).1.below hb,(h3 j e hj he).2⟩⟩
theorem FTail.at_ (h:FTail t w g n i x) {j:Nat} (hij:i <= j) (hj:j < n):∃ na A k c nb B m d,w.cell? ⟨g,j * 4,none⟩=some (.bool na)/\w.cell? ⟨g,j * 4+1,none⟩=some (.slice A k c)/\w.cell? ⟨g,j * 4+2,none⟩=some (.bool nb)/\w.cell? ⟨g,j * 4+3,none⟩=some (.slice B m d)/\Fr w na A k c nb B m d (x j):=by
 obtain ⟨es,h1,h2,h3⟩:=h;have he:=List.getElem?_eq_getElem (l:=es) (i:=j) (by omega);have hc:=Zdw he;obtain ⟨h4,h5⟩:=h3 j _ hij he;unfold FE.in_ at h4;rw [h5] at h4;exact ⟨_,_,_,_,_,_,_,_,by rw [h1.cell];exact hc.1,by rw [h1.cell];exact hc.2.1,by rw [h1.cell];exact hc.2.2.1,by rw [h1.cell];exact hc.2.2.2,h4⟩
theorem FTail.raw (h:FTail t w g n i x):FRaw t w g n:=by obtain ⟨es,h1,h2,-⟩:=h;exact ⟨es,h1,by omega⟩
theorem FTail.set_ (h:FTail t w g n (i+1) x) (hi:i < n) {na:Bool} {A:Option Addr} {k c:Nat} {nb:Bool} {B:Option Addr} {m d:Nat} (hf:Fr w na A k c nb B m d (x i)):FTail t (Zi1 w g i na A k c nb B m d) g n i x:=by
 obtain ⟨es,h1,h2,h3⟩:=h;have hb:=(((h1.set_ (i * 4) (.bool na)).set_ (i * 4+1) (.slice A k c)).set_ (i * 4+2) (.bool nb)).set_ (i * 4+3) (.slice B m d);have hs:=Zit (es:=es) (i:=i) ⟨na,A,k,c,nb,B,m,d,x i⟩ (by omega);dsimp only at hs;rw [hs] at hb;have hnl:=Zb6 es;refine ⟨_,hb,by rw [List.length_set];exact h2,fun j e hj he=>?_⟩;rw [List.getElem?_set] at he
 by_cases hij:i=j
 ·subst hij
  rw [if_pos rfl,if_pos (by omega)] at he
  cases he
  exact ⟨Zh7 hf h1 hnl,rfl⟩
 ·rw [if_neg hij] at he
  have:=h3 j e (by omega) he;exact ⟨Zh7 this.1 h1 hnl,this.2⟩
theorem FTail.fl (h:FTail t w g n 0 x) (hm:n <= maxLen):FL w (some ⟨g,0,none⟩) n n ((List.range n).map x):=by
 obtain ⟨es,h1,h2,h3⟩:=h;refine ⟨es,h2,Nat.le_refl _,hm,fun e he=>?_,?_,fun _=>⟨g,0,rfl,fun k e he=>?_⟩⟩
 ·obtain ⟨j,hj,e2⟩:=List.getElem_of_mem he
  exact (h3 j e (Nat.zero_le _) (by rw [List.getElem?_eq_getElem hj,e2])).1
 ·apply List.ext_getElem?
  intro j;rw [List.getElem?_map,List.getElem?_map]
  by_cases hj:j < n
  ·have he:=List.getElem?_eq_getElem (l:=es) (i:=j) (by omega)
   rw [he,List.getElem?_range hj,Option.map_some,Option.map_some,(h3 j _ (Nat.zero_le _) he).2]
  ·rw [List.getElem?_eq_none (by omega),List.getElem?_eq_none (by simpa using hj)];rfl
 ·have hc:=Zdw he
  exact ⟨by rw [Nat.zero_add,h1.cell];exact hc.1,by rw [Nat.zero_add,h1.cell];exact hc.2.1,by rw [Nat.zero_add,h1.cell];exact hc.2.2.1,by rw [Nat.zero_add,h1.cell];exact hc.2.2.2⟩
end
theorem RowS.isSlC {t:TypeId} {w:World} {base:Nat} {v:Value} {rs:List RS} (h:RowS t w base v rs):∃ A n c,v=.slice A n c:=by
 rcases h with ⟨rfl,_⟩ | ⟨g,sp,rfl,_⟩
 ·exact ⟨_,_,_,rfl⟩
 ·exact ⟨_,_,_,rfl⟩
def Zry (A X:Nat->Nat->Rat) (n:Nat) (w:World) (e:Ending) (w':World):Prop:=
 Below w.heap.size w w'/\((posP A n/\∃ B c,e=.returned (.tuple #[.slice B n c,.bool true])/\FL w' B n c ((List.range n).map fun i=>X i n)) \/ (¬ posP A n/\e=.returned (.tuple #[.slice none 0 0,.bool false])))
theorem Zh3 (A0:Option Addr) (n c:Nat) (Q:List (List Rat)) (Ax:Option Addr) (cx:Nat) (xs:List Rat) (w:World) (h:MFL w A0 n c Q) (hv:FL w Ax n cx xs) (hn0:0 < n) (hn9:n <= 100) (hm:∀ i,i < n->(Q[i]?.getD []).length=n)
    (hs:∀ t i k,t <= n->posP (Zg (Zap Q xs n)) t->i < n->SmN 380 380 (Zl (Zg (Zap Q xs n)) t i k)) (hl:∀ i k,k <= i->i < n->posP (Zg (Zap Q xs n)) (k+1)->SmN 300 300 (lQ (Zg (Zap Q xs n)) i k))
    (X:Nat->Nat->Rat) (hX:posP (Zg (Zap Q xs n)) n->Zrf (fun i j=>Zl (Zg (Zap Q xs n)) i i j) X n) :
    Calls Tryz.prog 58 #[.slice A0 n c,.slice Ax n cx] w (Zry (Zg (Zap Q xs n)) X n w):=by
 obtain ⟨iF,hi,hz0,hz1,hz2⟩:=info_parts Zq5;obtain ⟨iS,ki,kz0,kz1,kz2⟩:=info_parts infoRow
 have hmx:Tryz.prog.follows .mixedOrders=true:=by kernel_rfl
 have hne:(23:TypeId) ≠ 29:=by decide
 have hcap:=h.2.1;have hcm:=h.2.2.1;unfold maxLen at hcm;have hxcap:=hv.cap;unfold maxLen at hxcap;obtain ⟨R,hR⟩:∃ R,Zap Q xs n=R:=⟨_,rfl⟩;have hRl:Hid (R.length=n):=Za (by rw [<- hR];exact Zd6);have hRrow:Hid (∀ i,i < R.length->(R[i]?.getD []).length=n+1):=Za (fun i hi=>by rw [<- hR] at hi ⊢;exact Zij hm (by rw [Zd6] at hi;exact hi));have hRat:Hid (∀ i,i < n->R[i]?=some (Q[i]?.getD [] ++ [xs[i]?.getD 0])):=Za (fun i hi=>by rw [<- hR];exact Zsk hi);rw [hR] at hs hl hX ⊢;obtain ⟨AR,hAR⟩:∃ A,Zg R=A:=⟨_,rfl⟩;rw [hAR] at hs hl hX ⊢;replace hAR:=Za hAR;have hH:=Za h;have hVH:=Za hv;replace hs:=Za hs;replace hl:=Za hl;replace hX:=Za hX;replace hm:=Za hm;clear h hv hR;go_enter Tryz.func58,Tryz.ntmps58;go_wp2_with fail
 go_loopg [6,7] n (fun k ov iv wr=>∃ (i:Nat) (L:List RF),i+k=n/\iv=.int .i64 i/\MatO 23 29 wr w.heap.size ov L/\Hid (L.map RF.q=R.take i)/\Below w.heap.size w wr)
 case atStart=>exact ⟨0,[],by omega,rfl,MatO.nil _ _ _ _,Za (by simp),Below.refl _ _⟩
 case round =>
  obtain ⟨i,L,hik,rfl,hM,hQ,hB⟩:=hrel
  have hLl:L.length=i:=by
   have h1:(L.map RF.q).length=(R.take i).length:=by rw [hQ.out]
   rw [List.length_map,List.length_take,hRl.out] at h1;omega
  cases gk with
  | succ j =>
   obtain rfl:j=n - (i+1):=by omega
   have hin:i < n:=by omega
   have t1:decide ((i:Int) < (n:Int))=true:=decide_eq_true (by omega)
   have bi:(i:Int) < (n:Int):=by omega
   obtain ⟨g,o,A1,n1,c1,rfl,k0,hF⟩:=hH.out.at_ hin
   have hn1:n=n1:=by rw [<- hF.len];exact (hm.out i hin).symm
   subst hn1;obtain ⟨gy,oy,xn,xA,xk,xc,xm,xB,xj,xd,rfl,⟨x0,x1,x2,x3⟩,hXf⟩:=hVH.out.at_ hin;have hlt:Hid (∀ s ∈ L,s.g < wr.heap.size):=Za (fun s hs=>(hM.2.1 s hs).1.1.lt);have hqlen:Hid ((Q[i]?.getD []).length=n):=Za (hm.out i hin);obtain ⟨ovA,ovn,ovc,rfl⟩:=hM.1.isSlC;replace hM:=Za hM;replace hF:=Za hF;replace hXf:=Za hXf;have y0:=Zb hB k0;have y1:=Zb hB x0;have y2:=Zb hB x1;have y3:=Zb hB x2;have y4:=Zb hB x3;go_wp2_with fail;obtain ⟨X0,hX0⟩:∃ X,wr.drew=X:=⟨_,rfl⟩
   have hr0:Below wr.heap.size wr X0:=by rw [<- hX0];exact Zi (Below.refl _ _) 1
   have hSv:Hid (∀ wx,Below w.heap.size w wx->wx.cell? ⟨g,o+i,none⟩=some (.slice A1 n c1)/\wx.cell? ⟨gy,oy+i * 4,none⟩=some (.bool xn)/\wx.cell? ⟨gy,oy+i * 4+1,none⟩=some (.slice xA xk xc)/\wx.cell? ⟨gy,oy+i * 4+2,none⟩=some (.bool xm)/\wx.cell? ⟨gy,oy+i * 4+3,none⟩=some (.slice xB xj xd)):=Za (fun wx hbx=>⟨Zb hbx k0,Zb hbx x0,Zb hbx x1,Zb hbx x2,Zb hbx x3⟩);have hw0:Below w.heap.size w X0:=hB.trans (hr0.mono hB.size);refine wp_heldS [] hmx hSv (by rw [hX0];exact hw0) (fun hxs=>?_);rw [hX0];clear y0 y1 y2 y3 y4;refine Zu5 9 [0,2,3,4,5,7,8,9,10] rfl (by kernel_rfl) (hSv.out _ hw0) ?_
   iterate 9 (refine tk1 (v:=?_) rfl (Or.inl ⟨by kernel_rfl,?_⟩) ?_;rotate_left;(· intro W2 hSw;(try dsimp only at hSw);go_simp;try with_reducible rfl);try simp only [Act.put,putL_a,putL_z,putL_s,putG_a,putG_s,putG_z])
   refine tk0 ?_;refine Zcp (i:=1) (j:=11) rfl rfl (by kernel_rfl) (fun K hK=>?_) (fun K hK=>?_)
   ·obtain ⟨Y1,hY1⟩:∃ Y,X0.alloc (.cells #[] 29)=Y:=⟨_,rfl⟩
    obtain ⟨ga2,hga2⟩:∃ g,X0.heap.size=g:=⟨_,rfl⟩
    have hBY1:Below X0.heap.size X0 Y1:=by rw [<- hY1];exact (Below.refl _ _).alloc (Nat.le_refl _) _
    have hbl3:Blk Y1 ga2 29 #[]:=by rw [<- hY1,<- hga2];exact Blk.new _ _ _
    have hgeY1:wr.heap.size <= ga2:=by rw [<- hga2];exact hr0.size
    have hrY1:=hr0.trans (hBY1.mono hr0.size);have hwY1:Below w.heap.size w Y1:=hB.trans (hrY1.mono hB.size);have hOY1:OwnF 29 Y1 wr.heap.size (.slice (some ⟨ga2,0,none⟩) 0 0) []:=⟨[],.inr ⟨ga2,0,rfl,hgeY1,Nat.zero_le _,hbl3⟩,fun e he=>(by cases he),rfl⟩;go_simp;(try rw [hY1]);(try rw [hga2]);refine hK.out _ _ (fun _=>hSv.out _ hwY1) ?_;clear hK K hY1 hga2
    try simp only [Act.put,putL_a,putL_z,putL_s]
    refine Zcp (i:=6) (j:=11) rfl rfl (by kernel_rfl) (fun K hK=>?_) (fun K hK=>?_)
    ·obtain ⟨fsY4,hRY4,hflY4,hfeY4,hfqY4⟩:=(hF.out.below (hB.trans (hrY1.mono hB.size))).reads
     rw [if_pos (by rfl)];refine Zaf _ (.tmp 24) (.tmp 28) 23 rfl wr.heap.size 29 iF Tryz.underlying23 hi hz0 hz1 hz2 (.slice (some ⟨ga2,0,none⟩) 0 0) [] rfl hOY1 _ _ _ _ fsY4 rfl hRY4 hflY4 hfeY4 (by simp;omega) hrY1.size ?_;intro vY4 Y4 hOY4 hgY4 hkY4 hw2Y4;rw [List.nil_append,hfqY4] at hOY4;have hrY4:=hrY1.grown hgY4 hrY1.size (fun k hk=>hOY1.row_ge k hk);have hwY4:Below w.heap.size w Y4:=hB.trans (hrY4.mono hB.size);refine hK.out _ _ (fun _=>hSv.out _ hwY4) ?_;clear hK K
     try simp only [Act.put,putL_a,putL_z,putL_s]
     refine Ze (i:=11) rfl (by kernel_rfl) (fun K hK=>?_);obtain ⟨Y5,hY5⟩:∃ Y,Y4.alloc (.cells #[.bool xn,.slice xA xk xc,.bool xm,.slice xB xj xd] 29)=Y:=⟨_,rfl⟩;obtain ⟨ga6,hga6⟩:∃ g,Y4.heap.size=g:=⟨_,rfl⟩
     have hBY5:Below Y4.heap.size Y4 Y5:=by rw [<- hY5];exact (Below.refl _ _).alloc (Nat.le_refl _) _
     have hbl7:Blk Y5 ga6 29 #[.bool xn,.slice xA xk xc,.bool xm,.slice xB xj xd]:=by rw [<- hY5,<- hga6];exact Blk.new _ _ _
     have hgeY5:wr.heap.size <= ga6:=by rw [<- hga6];exact hrY4.size
     have hrY5:=hrY4.trans (hBY5.mono hrY4.size);have hwY5:Below w.heap.size w Y5:=hB.trans (hrY5.mono hB.size);have hOY4Y5:=hOY4.kept hBY5;go_simp;(try rw [hY5]);(try rw [hga6]);refine hK.out _ _ (fun _=>hSv.out _ hwY5) ?_;clear hK K hY5 hga6
     try simp only [Act.put,putL_a,putL_z,putL_s]
     refine Ze (i:=12) rfl (by kernel_rfl) (fun K hK=>?_);rw [if_pos (by rfl)];obtain ⟨zA,zc,hvz,hFz⟩:=hOY4Y5.fl;rw [hqlen.out] at hvz hFz;subst hvz;refine Zaf _ (.tmp 29) (.tmp 34) 23 rfl wr.heap.size 29 iF Tryz.underlying23 hi hz0 hz1 hz2 (.slice zA n zc) _ rfl hOY4Y5 _ (some ⟨ga6,0,none⟩) 1 1 [⟨xn,xA,xk,xc,xm,xB,xj,xd,xs[i]?.getD 0⟩] rfl (Zbm _ hbl7) rfl (by intro e he;rw [List.mem_singleton] at he;subst he;exact hXf.out.below (hB.trans (hrY5.mono hB.size))) (by rw [hqlen.out];omega) hrY5.size ?_;intro vQ Y8 hOY8 hgY8 hkY8 hw2Y8;simp only [List.map_cons,List.map_nil] at hOY8;have hrY8:=hrY5.grown hgY8 hrY5.size (fun k hk=>hOY4Y5.row_ge k hk);have hwY8:Below w.heap.size w Y8:=hB.trans (hrY8.mono hB.size)
     rcases hOY8.fown with ⟨-,hnilq⟩ | ⟨g2,c2,rfl,hg2',hc21,hc22,hF2⟩
     ·simp at hnilq
     have hqn:(Q[i]?.getD [] ++ [xs[i]?.getD 0]).length=n+1:=by rw [List.length_append,hqlen.out];rfl
     rw [hqn] at hc21 ⊢;refine hK.out _ _ (fun _=>hSv.out _ hwY8) ?_;clear hK K
     try simp only [Act.put,putL_a,putL_z,putL_s]
     obtain ⟨Z1,hZ1⟩:∃ Z,Y8.alloc (.cells #[.slice (some ⟨g2,0,none⟩) (n+1) c2] 23)=Z:=⟨_,rfl⟩;obtain ⟨gz,hgz⟩:∃ g,Y8.heap.size=g:=⟨_,rfl⟩
     have hBZ:Below Y8.heap.size Y8 Z1:=by rw [<- hZ1];exact (Below.refl _ _).alloc (Nat.le_refl _) _
     have hbZ:Blk Z1 gz 23 #[.slice (some ⟨g2,0,none⟩) (n+1) c2]:=by rw [<- hZ1,<- hgz];exact Blk.new _ _ _
     have hrZ:=hrY8.trans (hBZ.mono hrY8.size);have hwZ:Below w.heap.size w Z1:=hB.trans (hrZ.mono hB.size);refine Ze (i:=13) rfl (by kernel_rfl) (fun K hK=>?_);go_simp;(try rw [hZ1]);(try rw [hgz]);refine hK.out _ _ (fun _=>hSv.out _ hwZ) ?_;clear hK K hZ1 hgz
     try simp only [Act.put,putL_a,putL_z,putL_s]
     have hMZ:=hM.out.kept hrZ;have hFZ:=hF2.below hBZ
     have hll:(L.map RF.rs).length+1 <= 1000:=by rw [List.length_map];omega
     refine Ze (i:=14) rfl (by kernel_rfl) (fun K hK=>?_);rw [if_pos (by rfl)];refine Zbh _ (.tmp 23) (.tmp 36) 22 rfl w.heap.size 23 iS Tryz.underlying22 ki kz0 kz1 kz2 _ (L.map RF.rs) rfl hMZ.1 _ (some ⟨gz,0,none⟩) 1 1 [⟨some ⟨g2,0,none⟩,n+1,c2⟩] rfl (Zik hbZ) rfl hll hwZ.size ?_;intro v5 w5 hR5 hg5 hk5;have hw5:=hwZ.grown hg5 hwZ.size (fun k hk=>hMZ.1.row_ge k hk)
     have hnew:∀ s ∈ L,s.g ≠ g2:=fun s hs=>by have:=hlt.out s hs;omega
     have hM5:=Za (hMZ.snoc hne (r:=⟨g2,c2,Q[i]?.getD [] ++ [xs[i]?.getD 0]⟩) ⟨hFZ,by rw [hqn];exact hc21,hc22⟩ (Nat.le_trans hB.size hg2') hnew (by simp only [RF.rs,hqn];exact hR5) hg5 hk5);have hQ5:Hid (L.map RF.q ++ [Q[i]?.getD [] ++ [xs[i]?.getD 0]]=R.take (i+1)):=Za (by rw [hQ.out,List.take_add_one,hRat.out i hin];rfl);refine hK.out _ _ (fun _=>hSv.out _ hw5) ?_;clear hK K
     try simp only [Act.put,putL_a,putL_z,putL_s]
     refine Zu4 1 [15] rfl (by kernel_rfl) (hSv.out _ hw5) ?_
     (refine tk1 (v:=?_) rfl (Or.inl ⟨by kernel_rfl,?_⟩) ?_;rotate_left;(· intro W2 _;go_simp;try with_reducible rfl);try simp only [Act.put,putL_a,putL_z,putL_s,putG_a,putG_s,putG_z])
     refine tk0 ?_;refine Zj (by kernel_rfl) ?_ _;refine OnlyNormal.normal ?_;go_wp2_with fail
     go_roundg (n - (i+1))
     case measure=>omega
     case rel=>exact ⟨i+1,_,by omega,by go_num,hM5.out,Za (by rw [List.map_append];exact hQ5.out),hw5⟩
    ·obtain ⟨Y10,hY10⟩:∃ Y,Y1.alloc (.cells #[.bool xn,.slice xA xk xc,.bool xm,.slice xB xj xd] 29)=Y:=⟨_,rfl⟩
     obtain ⟨ga11,hga11⟩:∃ g,Y1.heap.size=g:=⟨_,rfl⟩
     have hBY10:Below Y1.heap.size Y1 Y10:=by rw [<- hY10];exact (Below.refl _ _).alloc (Nat.le_refl _) _
     have hbl12:Blk Y10 ga11 29 #[.bool xn,.slice xA xk xc,.bool xm,.slice xB xj xd]:=by rw [<- hY10,<- hga11];exact Blk.new _ _ _
     have hgeY10:wr.heap.size <= ga11:=by rw [<- hga11];exact hrY1.size
     have hrY10:=hrY1.trans (hBY10.mono hrY1.size);have hwY10:Below w.heap.size w Y10:=hB.trans (hrY10.mono hB.size);have hdd:Hid (ga2 < ga11):=Za (by rw [<- hga11];have h9:=hOY1.blt ga2 (by simp [Value.ownBlock]);exact h9);have hOY1Y10:=hOY1.kept hBY10;go_simp;(try rw [hY10]);(try rw [hga11]);refine hK.out _ _ (fun _=>hSv.out _ hwY10) ?_;clear hK K hY10 hga11
     try simp only [Act.put,putL_a,putL_z,putL_s]
     refine Ze (i:=6) rfl (by kernel_rfl) (fun K hK=>?_);obtain ⟨fsY13,hRY13,hflY13,hfeY13,hfqY13⟩:=(hF.out.below (hB.trans (hrY10.mono hB.size))).reads;rw [if_pos (by rfl)];refine Zaf _ (.tmp 24) (.tmp 28) 23 rfl wr.heap.size 29 iF Tryz.underlying23 hi hz0 hz1 hz2 (.slice (some ⟨ga2,0,none⟩) 0 0) [] rfl hOY1Y10 _ _ _ _ fsY13 rfl hRY13 hflY13 hfeY13 (by simp;omega) hrY10.size ?_;intro vY13 Y13 hOY13 hgY13 hkY13 hw2Y13;rw [List.nil_append,hfqY13] at hOY13;have hrY13:=hrY10.grown hgY13 hrY10.size (fun k hk=>hOY1Y10.row_ge k hk);have hwY13:Below w.heap.size w Y13:=hB.trans (hrY13.mono hB.size);have hbl12Y13:Blk Y13 ga11 29 #[.bool xn,.slice xA xk xc,.bool xm,.slice xB xj xd]:=(hgY13.block ga11 hbl12.lt (fun e=>by simp [Value.ownBlock] at e;have:=hdd.out;omega)).trans hbl12;refine hK.out _ _ (fun _=>hSv.out _ hwY13) ?_;clear hK K
     try simp only [Act.put,putL_a,putL_z,putL_s]
     refine Ze (i:=12) rfl (by kernel_rfl) (fun K hK=>?_);rw [if_pos (by rfl)];obtain ⟨zA,zc,hvz,hFz⟩:=hOY13.fl;rw [hqlen.out] at hvz hFz;subst hvz;refine Zaf _ (.tmp 29) (.tmp 34) 23 rfl wr.heap.size 29 iF Tryz.underlying23 hi hz0 hz1 hz2 (.slice zA n zc) _ rfl hOY13 _ (some ⟨ga11,0,none⟩) 1 1 [⟨xn,xA,xk,xc,xm,xB,xj,xd,xs[i]?.getD 0⟩] rfl (Zbm _ hbl12Y13) rfl (by intro e he;rw [List.mem_singleton] at he;subst he;exact hXf.out.below (hB.trans (hrY13.mono hB.size))) (by rw [hqlen.out];omega) hrY13.size ?_;intro vQ Y14 hOY14 hgY14 hkY14 hw2Y14;simp only [List.map_cons,List.map_nil] at hOY14;have hrY14:=hrY13.grown hgY14 hrY13.size (fun k hk=>hOY13.row_ge k hk);have hwY14:Below w.heap.size w Y14:=hB.trans (hrY14.mono hB.size)
     rcases hOY14.fown with ⟨-,hnilq⟩ | ⟨g2,c2,rfl,hg2',hc21,hc22,hF2⟩
     ·simp at hnilq
     have hqn:(Q[i]?.getD [] ++ [xs[i]?.getD 0]).length=n+1:=by rw [List.length_append,hqlen.out];rfl
     rw [hqn] at hc21 ⊢;refine hK.out _ _ (fun _=>hSv.out _ hwY14) ?_;clear hK K
     try simp only [Act.put,putL_a,putL_z,putL_s]
     obtain ⟨Z1,hZ1⟩:∃ Z,Y14.alloc (.cells #[.slice (some ⟨g2,0,none⟩) (n+1) c2] 23)=Z:=⟨_,rfl⟩;obtain ⟨gz,hgz⟩:∃ g,Y14.heap.size=g:=⟨_,rfl⟩
     have hBZ:Below Y14.heap.size Y14 Z1:=by rw [<- hZ1];exact (Below.refl _ _).alloc (Nat.le_refl _) _
     have hbZ:Blk Z1 gz 23 #[.slice (some ⟨g2,0,none⟩) (n+1) c2]:=by rw [<- hZ1,<- hgz];exact Blk.new _ _ _
     have hrZ:=hrY14.trans (hBZ.mono hrY14.size);have hwZ:Below w.heap.size w Z1:=hB.trans (hrZ.mono hB.size);refine Ze (i:=13) rfl (by kernel_rfl) (fun K hK=>?_);go_simp;(try rw [hZ1]);(try rw [hgz]);refine hK.out _ _ (fun _=>hSv.out _ hwZ) ?_;clear hK K hZ1 hgz
     try simp only [Act.put,putL_a,putL_z,putL_s]
     have hMZ:=hM.out.kept hrZ;have hFZ:=hF2.below hBZ
     have hll:(L.map RF.rs).length+1 <= 1000:=by rw [List.length_map];omega
     refine Ze (i:=14) rfl (by kernel_rfl) (fun K hK=>?_);rw [if_pos (by rfl)];refine Zbh _ (.tmp 23) (.tmp 36) 22 rfl w.heap.size 23 iS Tryz.underlying22 ki kz0 kz1 kz2 _ (L.map RF.rs) rfl hMZ.1 _ (some ⟨gz,0,none⟩) 1 1 [⟨some ⟨g2,0,none⟩,n+1,c2⟩] rfl (Zik hbZ) rfl hll hwZ.size ?_;intro v5 w5 hR5 hg5 hk5;have hw5:=hwZ.grown hg5 hwZ.size (fun k hk=>hMZ.1.row_ge k hk)
     have hnew:∀ s ∈ L,s.g ≠ g2:=fun s hs=>by have:=hlt.out s hs;omega
     have hM5:=Za (hMZ.snoc hne (r:=⟨g2,c2,Q[i]?.getD [] ++ [xs[i]?.getD 0]⟩) ⟨hFZ,by rw [hqn];exact hc21,hc22⟩ (Nat.le_trans hB.size hg2') hnew (by simp only [RF.rs,hqn];exact hR5) hg5 hk5);have hQ5:Hid (L.map RF.q ++ [Q[i]?.getD [] ++ [xs[i]?.getD 0]]=R.take (i+1)):=Za (by rw [hQ.out,List.take_add_one,hRat.out i hin];rfl);refine hK.out _ _ (fun _=>hSv.out _ hw5) ?_;clear hK K
     try simp only [Act.put,putL_a,putL_z,putL_s]
     refine Zu4 1 [15] rfl (by kernel_rfl) (hSv.out _ hw5) ?_
     (refine tk1 (v:=?_) rfl (Or.inl ⟨by kernel_rfl,?_⟩) ?_;rotate_left;(· intro W2 _;go_simp;try with_reducible rfl);try simp only [Act.put,putL_a,putL_z,putL_s,putG_a,putG_s,putG_z])
     refine tk0 ?_;refine Zj (by kernel_rfl) ?_ _;refine OnlyNormal.normal ?_;go_wp2_with fail
     go_roundg (n - (i+1))
     case measure=>omega
     case rel=>exact ⟨i+1,_,by omega,by go_num,hM5.out,Za (by rw [List.map_append];exact hQ5.out),hw5⟩
   ·obtain ⟨Y16,hY16⟩:∃ Y,X0.alloc (.cells #[.bool xn,.slice xA xk xc,.bool xm,.slice xB xj xd] 29)=Y:=⟨_,rfl⟩
    obtain ⟨ga17,hga17⟩:∃ g,X0.heap.size=g:=⟨_,rfl⟩
    have hBY16:Below X0.heap.size X0 Y16:=by rw [<- hY16];exact (Below.refl _ _).alloc (Nat.le_refl _) _
    have hbl18:Blk Y16 ga17 29 #[.bool xn,.slice xA xk xc,.bool xm,.slice xB xj xd]:=by rw [<- hY16,<- hga17];exact Blk.new _ _ _
    have hgeY16:wr.heap.size <= ga17:=by rw [<- hga17];exact hr0.size
    have hrY16:=hr0.trans (hBY16.mono hr0.size);have hwY16:Below w.heap.size w Y16:=hB.trans (hrY16.mono hB.size);go_simp;(try rw [hY16]);(try rw [hga17]);refine hK.out _ _ (fun _=>hSv.out _ hwY16) ?_;clear hK K hY16 hga17
    try simp only [Act.put,putL_a,putL_z,putL_s]
    refine Ze (i:=1) rfl (by kernel_rfl) (fun K hK=>?_);obtain ⟨Y19,hY19⟩:∃ Y,Y16.alloc (.cells #[] 29)=Y:=⟨_,rfl⟩;obtain ⟨ga20,hga20⟩:∃ g,Y16.heap.size=g:=⟨_,rfl⟩
    have hBY19:Below Y16.heap.size Y16 Y19:=by rw [<- hY19];exact (Below.refl _ _).alloc (Nat.le_refl _) _
    have hbl21:Blk Y19 ga20 29 #[]:=by rw [<- hY19,<- hga20];exact Blk.new _ _ _
    have hgeY19:wr.heap.size <= ga20:=by rw [<- hga20];exact hrY16.size
    have hrY19:=hrY16.trans (hBY19.mono hrY16.size);have hwY19:Below w.heap.size w Y19:=hB.trans (hrY19.mono hB.size);have hdd:Hid (ga17 < ga20):=Za (by rw [<- hga20];exact hbl18.lt);have hbl18Y19:=Zc hBY19 hbl18;have hOY19:OwnF 29 Y19 wr.heap.size (.slice (some ⟨ga20,0,none⟩) 0 0) []:=⟨[],.inr ⟨ga20,0,rfl,hgeY19,Nat.zero_le _,hbl21⟩,fun e he=>(by cases he),rfl⟩;go_simp;(try rw [hY19]);(try rw [hga20]);refine hK.out _ _ (fun _=>hSv.out _ hwY19) ?_;clear hK K hY19 hga20
    try simp only [Act.put,putL_a,putL_z,putL_s]
    refine Ze (i:=6) rfl (by kernel_rfl) (fun K hK=>?_);obtain ⟨fsY22,hRY22,hflY22,hfeY22,hfqY22⟩:=(hF.out.below (hB.trans (hrY19.mono hB.size))).reads;rw [if_pos (by rfl)];refine Zaf _ (.tmp 24) (.tmp 28) 23 rfl wr.heap.size 29 iF Tryz.underlying23 hi hz0 hz1 hz2 (.slice (some ⟨ga20,0,none⟩) 0 0) [] rfl hOY19 _ _ _ _ fsY22 rfl hRY22 hflY22 hfeY22 (by simp;omega) hrY19.size ?_;intro vY22 Y22 hOY22 hgY22 hkY22 hw2Y22;rw [List.nil_append,hfqY22] at hOY22;have hrY22:=hrY19.grown hgY22 hrY19.size (fun k hk=>hOY19.row_ge k hk);have hwY22:Below w.heap.size w Y22:=hB.trans (hrY22.mono hB.size);have hbl18Y19Y22:Blk Y22 ga17 29 #[.bool xn,.slice xA xk xc,.bool xm,.slice xB xj xd]:=(hgY22.block ga17 hbl18Y19.lt (fun e=>by simp [Value.ownBlock] at e;have:=hdd.out;omega)).trans hbl18Y19;refine hK.out _ _ (fun _=>hSv.out _ hwY22) ?_;clear hK K
    try simp only [Act.put,putL_a,putL_z,putL_s]
    refine Ze (i:=12) rfl (by kernel_rfl) (fun K hK=>?_);rw [if_pos (by rfl)];obtain ⟨zA,zc,hvz,hFz⟩:=hOY22.fl;rw [hqlen.out] at hvz hFz;subst hvz;refine Zaf _ (.tmp 29) (.tmp 34) 23 rfl wr.heap.size 29 iF Tryz.underlying23 hi hz0 hz1 hz2 (.slice zA n zc) _ rfl hOY22 _ (some ⟨ga17,0,none⟩) 1 1 [⟨xn,xA,xk,xc,xm,xB,xj,xd,xs[i]?.getD 0⟩] rfl (Zbm _ hbl18Y19Y22) rfl (by intro e he;rw [List.mem_singleton] at he;subst he;exact hXf.out.below (hB.trans (hrY22.mono hB.size))) (by rw [hqlen.out];omega) hrY22.size ?_;intro vQ Y23 hOY23 hgY23 hkY23 hw2Y23;simp only [List.map_cons,List.map_nil] at hOY23;have hrY23:=hrY22.grown hgY23 hrY22.size (fun k hk=>hOY22.row_ge k hk);have hwY23:Below w.heap.size w Y23:=hB.trans (hrY23.mono hB.size)
    rcases hOY23.fown with ⟨-,hnilq⟩ | ⟨g2,c2,rfl,hg2',hc21,hc22,hF2⟩
    ·simp at hnilq
    have hqn:(Q[i]?.getD [] ++ [xs[i]?.getD 0]).length=n+1:=by rw [List.length_append,hqlen.out];rfl
    rw [hqn] at hc21 ⊢;refine hK.out _ _ (fun _=>hSv.out _ hwY23) ?_;clear hK K
    try simp only [Act.put,putL_a,putL_z,putL_s]
    obtain ⟨Z1,hZ1⟩:∃ Z,Y23.alloc (.cells #[.slice (some ⟨g2,0,none⟩) (n+1) c2] 23)=Z:=⟨_,rfl⟩;obtain ⟨gz,hgz⟩:∃ g,Y23.heap.size=g:=⟨_,rfl⟩
    have hBZ:Below Y23.heap.size Y23 Z1:=by rw [<- hZ1];exact (Below.refl _ _).alloc (Nat.le_refl _) _
    have hbZ:Blk Z1 gz 23 #[.slice (some ⟨g2,0,none⟩) (n+1) c2]:=by rw [<- hZ1,<- hgz];exact Blk.new _ _ _
    have hrZ:=hrY23.trans (hBZ.mono hrY23.size);have hwZ:Below w.heap.size w Z1:=hB.trans (hrZ.mono hB.size);refine Ze (i:=13) rfl (by kernel_rfl) (fun K hK=>?_);go_simp;(try rw [hZ1]);(try rw [hgz]);refine hK.out _ _ (fun _=>hSv.out _ hwZ) ?_;clear hK K hZ1 hgz
    try simp only [Act.put,putL_a,putL_z,putL_s]
    have hMZ:=hM.out.kept hrZ;have hFZ:=hF2.below hBZ
    have hll:(L.map RF.rs).length+1 <= 1000:=by rw [List.length_map];omega
    refine Ze (i:=14) rfl (by kernel_rfl) (fun K hK=>?_);rw [if_pos (by rfl)];refine Zbh _ (.tmp 23) (.tmp 36) 22 rfl w.heap.size 23 iS Tryz.underlying22 ki kz0 kz1 kz2 _ (L.map RF.rs) rfl hMZ.1 _ (some ⟨gz,0,none⟩) 1 1 [⟨some ⟨g2,0,none⟩,n+1,c2⟩] rfl (Zik hbZ) rfl hll hwZ.size ?_;intro v5 w5 hR5 hg5 hk5;have hw5:=hwZ.grown hg5 hwZ.size (fun k hk=>hMZ.1.row_ge k hk)
    have hnew:∀ s ∈ L,s.g ≠ g2:=fun s hs=>by have:=hlt.out s hs;omega
    have hM5:=Za (hMZ.snoc hne (r:=⟨g2,c2,Q[i]?.getD [] ++ [xs[i]?.getD 0]⟩) ⟨hFZ,by rw [hqn];exact hc21,hc22⟩ (Nat.le_trans hB.size hg2') hnew (by simp only [RF.rs,hqn];exact hR5) hg5 hk5);have hQ5:Hid (L.map RF.q ++ [Q[i]?.getD [] ++ [xs[i]?.getD 0]]=R.take (i+1)):=Za (by rw [hQ.out,List.take_add_one,hRat.out i hin];rfl);refine hK.out _ _ (fun _=>hSv.out _ hw5) ?_;clear hK K
    try simp only [Act.put,putL_a,putL_z,putL_s]
    refine Zu4 1 [15] rfl (by kernel_rfl) (hSv.out _ hw5) ?_
    (refine tk1 (v:=?_) rfl (Or.inl ⟨by kernel_rfl,?_⟩) ?_;rotate_left;(· intro W2 _;go_simp;try with_reducible rfl);try simp only [Act.put,putL_a,putL_z,putL_s,putG_a,putG_s,putG_z])
    refine tk0 ?_;refine Zj (by kernel_rfl) ?_ _;refine OnlyNormal.normal ?_;go_wp2_with fail
    go_roundg (n - (i+1))
    case measure=>omega
    case rel=>exact ⟨i+1,_,by omega,by go_num,hM5.out,Za (by rw [List.map_append];exact hQ5.out),hw5⟩
  | zero =>
   obtain rfl:n=i:=by omega
   have t1:decide ((n:Int) < (n:Int))=false:=by simp
   have hQn:L.map RF.q=R:=by rw [hQ.out];exact List.take_of_length_le (by rw [hRl.out];exact Nat.le_refl _)
   obtain ⟨go,cap,rfl,hc1,hc2,hgo,hMB,hgs⟩:=hM.mat hne (fun e=>by rw [e] at hLl;simp at hLl;omega);rw [hLl] at hc1;simp only [hLl];unfold maxLen at hc2
   have hgG:Hid (∀ k,k ∈ L.map RF.g->w.heap.size <= k):=Za (fun k hk=>by
    obtain ⟨r,hr,rfl⟩:=List.mem_map.1 hk
    exact hgs r hr)
   have hgoL:Hid (go ∉ L.map RF.g):=Za (List.nodup_cons.1 hMB.2.2).1;obtain ⟨w1,rfl⟩:∃ x:World,x=wr:=⟨_,rfl⟩;have hGX:Hid (∀ k,k ∈ L.map RF.g->∃ t cs,Blk w1 k t cs/\NoLimb cs):=Za (fun k hk=>hMB.boxes k (.inr hk));have hgow:Hid (go < w1.heap.size):=Za (by obtain ⟨t,cs,hb,-⟩:=hMB.boxes go (.inl rfl);exact hb.lt);have hQn':=Za hQn;replace hMB:=Za hMB;replace hLl:=Za hLl;replace hB:=Za hB;clear hM hQ hQn hgs;go_wp2_with fail
   go_loopg [9] n (fun k iv wr=>∃ (p:Nat) (L1:List RF),p+k=n/\iv=.int .i64 p/\MatB 23 29 wr go L1/\Hid (L1.length=n)/\Hid (L1.map RF.g=L.map RF.g)/\Hid (L1.map RF.c=L.map RF.c)/\Hid (L1.map RF.q=Zcl R p)/\Hid (posP AR p)/\Kept (fun g=>g ∈ L.map RF.g) w1 wr)
   case atStart=>exact ⟨0,L,by omega,rfl,hMB.out,hLl,Za rfl,Za rfl,Za hQn'.out,Za (fun t ht=>by omega),Kept.refl _ _⟩
   case round =>
    clear hMB;obtain ⟨wp_,rfl⟩:∃ x:World,x=wr:=⟨_,rfl⟩;obtain ⟨p,L1,hpk,rfl,hM,hl1,hg1,hc1',hq1,hpos,hK⟩:=hrel;have hBp:Hid (Below w.heap.size w wp_):=Za (hB.out.trans (hK.to_below hgG.out hB.out.size))
    have hE:Hid (∀ i k,i < n->min p i <= k->(Zcr L1 i)[k]?.getD 0=Zl AR p i k):=Za (fun i k hi hk=>by
     rw [<- Zuz,hq1.out,<- hAR.out]
     exact Zd4 hRl.out hRrow.out p (by omega) i k hi hk)
    have hlen:Hid (∀ i,i < n->(Zcr L1 i).length=n+1):=Za (fun i hi=>by
     rw [Zkm,hq1.out]
     exact Zif hRrow.out p i (by rw [hRl.out];exact hi))
    cases gk with
    | zero =>
     obtain rfl:n=p:=by omega
     have t2:decide ((n:Int) < (n:Int))=false:=by simp
     have hE2:Hid (∀ i k,i < n->i <= k->(Zcr L1 i)[k]?.getD 0=Zl AR i i k):=Za (fun i k hi hk=>by rw [hE.out i k hi (by omega),Zfb (by omega)]);have hX0:=hX.out hpos.out;obtain ⟨E,hEe⟩:∃ E:Nat->Nat->Rat,(fun i j=>Zl AR i i j)=E:=⟨_,rfl⟩;rw [hEe] at hX0;have hE3:Hid (∀ i k,i < n->i <= k->(Zcr L1 i)[k]?.getD 0=E i k):=Za (fun i k hi hk=>by rw [hE2.out i k hi hk,<- hEe]);have hES:Hid (∀ i k,i < n->SmN 380 380 (E i k)):=Za (fun i k hi=>by rw [<- hEe];exact hs.out i i k (by omega) (hpos.out.mono (by omega)) hi);have hE0:Hid (∀ i,i < n->E i i ≠ 0):=Za (fun i hi=>by rw [<- hEe];exact hpos.out.ne hi);obtain ⟨e1,e2,e3⟩:=hX0;replace e1:=Za e1;replace e2:=Za e2;replace e3:=Za e3;replace hEe:=Za hEe;have hmk:=makeFr (P:=Tryz.prog) 23 29 Tryz.underlying23 hi hz0 hz1 hz2 (n:Int) n rfl (by omega) wp_;obtain ⟨gO,hgO⟩:∃ g,wp_.heap.size=g:=⟨_,rfl⟩;obtain ⟨X2,hX2,hXB,-,-,-,sX⟩:=Z5 29 (Zag (List.replicate n Za0)) (Below.refl wp_.heap.size wp_) (Nat.le_refl _)
     have hO:FTail 29 X2 gO n n (fun i=>X i n):=by rw [<- hX2,<- hgO];exact FTail.new _ _ _ _
     have hM2:=Za (hM.below hXB);have hBX:Hid (Below w.heap.size w X2):=Za (hBp.out.trans (hXB.mono hBp.out.size));have hgOw:Hid (w.heap.size <= gO):=Za (by rw [<- hgO];exact hBp.out.size)
     have hgoO:Hid (go ≠ gO):=Za (by
      obtain ⟨t,cs,hb,-⟩:=hM.boxes go (.inl rfl)
      have:=hb.lt;omega)
     have hgrO:Hid (∀ r ∈ L1,r.g ≠ gO):=Za (fun r hr=>by
      obtain ⟨t,cs,hb,-⟩:=hM.boxes r.g (.inr (List.mem_map.2 ⟨r,hr,rfl⟩))
      have:=hb.lt;omega)
     have hOb:Hid (∃ t cs,Blk X2 gO t cs/\NoLimb cs):=Za hO.raw.box
     have hw1:IntKind.i64.wrap ((n:Int) - 1)=(n:Int) - 1:=by rw [IntKind.wrap_i64];omega
     replace hO:=Za hO;replace hK:=Za hK;clear hM hXB sX;go_wp2_with fail;(try rw [hX2]);(try rw [hgO]);clear hmk hX2;replace hgO:=Za hgO
     go_loopg [14] n (fun k iv wr=>iv=.int .i64 ((k:Int) - 1)/\k <= n/\MatB 23 29 wr go L1/\FTail 29 wr gO n k (fun i=>X i n)/\Kept (fun g=>g=gO) X2 wr)
     case atStart=>exact ⟨by go_num,Nat.le_refl _,hM2.out,hO.out,Kept.refl _ _⟩
     case round =>
      clear hM2 hO hw1;obtain ⟨wr0,rfl⟩:∃ x:World,x=wr:=⟨_,rfl⟩;obtain ⟨rfl,hkn,hM,hO,hK2⟩:=hrel
      cases gk with
      | zero =>
       have t3:decide ((0:Int) <= ((0:Nat):Int) - 1)=false:=by decide
       have t3':decide ((0:Int) <= -1)=false:=by decide
       have hfl:=Za (hO.fl (by unfold maxLen;omega));have hBe:Hid (Below w.heap.size w wr0):=Za (hBX.out.trans (hK2.to_below (fun k e=>by have:=hgOw.out;omega) hBX.out.size));have hpn:=hpos;replace hM:=Za hM;replace hK2:=Za hK2;replace hO:=Za hO;go_wp2_with fail;go_returns;exact ⟨hBe.out,.inl ⟨hpn.out,_,_,rfl,hfl.out⟩⟩
      | succ i =>
       have e9:((i+1:Nat):Int) - 1=(i:Int):=by omega
       rw [e9]
       have hin:i < n:=by omega
       have t3:decide ((0:Int) <= (i:Int))=true:=decide_eq_true (by omega)
       have bi:(i:Int) < (n:Int):=by omega
       have bnn:(n:Int) < ((n+1:Nat):Int):=by omega
       have bnn2:(n:Int) < (n:Int)+1:=by omega
       obtain ⟨ri,hri2⟩:=Zi3 (L:=L1) (i:=i) (by rw [hl1.out];exact hin);have hqi:ri.q=Zcr L1 i:=(Zhj hri2).symm
       have hli:ri.q.length=n+1:=by rw [hqi];exact hlen.out i hin
       obtain ⟨ci,zi⟩:=hM.cell hri2;obtain ⟨fi,ki1,ki2⟩:=hM.row hri2;rw [hli] at ci ki1;unfold maxLen at ki2;obtain ⟨xn,xA,xk,xc,xm,xB,xj,xd,p0,p1,p2,p3,hf1⟩:=fi.at_ (i:=n) (by rw [hli];omega);rw [hqi,hE3.out i n hin (by omega)] at hf1;obtain ⟨V1,hV1,hBV1,a1,s1⟩:=Zaw wr0 29 #[.bool false,.slice none 0 0,.bool false,.slice none 0 0];obtain ⟨gs,hgs⟩:∃ g,wr0.heap.size=g:=⟨_,rfl⟩;rw [hgs] at a1 s1;obtain ⟨u0,u1,u2,u3,v0,v1,v2,v3⟩:=a1.four;obtain ⟨W4,hW4,a4,hK4,s4⟩:=Zao xn xA xk xc xm xB xj xd a1;have hB4:Below wr0.heap.size wr0 W4:=hBV1.trans (hK4.to_below (fun k e=>by omega) hBV1.size);have hs4:Hid (W4.heap.size=gs+1):=Za (by rw [s4,s1]);have hY4:=Za (hf1.below hB4);have hM4:=Za (hM.below hB4);have hO4:=Za (hO.below hB4);have hK24:Hid (Kept (fun g=>g=gO) X2 W4):=Za (hK2.below hB4);have hup:Hid (upS E X i n (i+1)=E i n):=Za (Zut _ _ _ _ _ (Nat.le_refl _))
       have hwi:IntKind.i64.wrap ((i:Int)+1)=((i+1:Nat):Int):=by rw [IntKind.wrap_i64];omega
       have hwi2:IntKind.i64.wrap ((i:Int) - 1)=(i:Int) - 1:=by rw [IntKind.wrap_i64];omega
       have hgOs:Hid (gO < gs):=Za (by have:=hO.raw.lt;omega);replace hB4:=Za hB4;replace a4:=Za a4;replace hM:=Za hM;replace hO:=Za hO;replace hK2:=Za hK2;clear hf1 hBV1 hK4 s1 s4 fi hqi;go_wp2_with fail;(try rw [hgs]);(try rw [hW4]);clear u0 u1 u2 u3 v0 v1 v2 v3 a1 hV1 hW4 p0 p1 p2 p3 ci zi;replace hgs:=Za hgs
       go_loopg [16] (n - (i+1)) (fun k kv wr=>∃ (t:Nat) (sn:Bool) (sA:Option Addr) (sk sc:Nat) (sm:Bool) (sB:Option Addr) (sj sd:Nat),t+k=n/\kv=.int .i64 t/\i+1 <= t/\Blk wr gs 29 #[.bool sn,.slice sA sk sc,.bool sm,.slice sB sj sd]/\Hid (Fr wr sn sA sk sc sm sB sj sd (upS E X i n t))/\Kept (fun g=>g=gs) W4 wr)
       case atStart=>exact ⟨i+1,_,_,_,_,_,_,_,_,by omega,by go_num,Nat.le_refl _,a4.out,Za (by rw [hup.out];exact hY4.out),Kept.refl _ _⟩
       case round =>
        clear a4 hY4 hwi;obtain ⟨wj,rfl⟩:∃ x:World,x=wr:=⟨_,rfl⟩;obtain ⟨t,sn,sA,sk,sc,sm,sB,sj,sd,htk,rfl,hit,hbs,hsv,hK5⟩:=hrel;have hs4':=hs4.out;have hgs':=hgs.out;have hBj:Hid (Below wr0.heap.size wr0 wj):=Za (hB4.out.trans (hK5.to_below (fun k e=>by omega) (by omega)));have hMj:=hM.out.below hBj.out;have hOj:=hO.out.below hBj.out;obtain ⟨ci,zi⟩:=hMj.cell hri2;obtain ⟨fi,-,-⟩:=hMj.row hri2;rw [hli] at ci;have hqi:ri.q=Zcr L1 i:=(Zhj hri2).symm;obtain ⟨s0,s1,s2,s3,y0,y1,y2,y3⟩:=hbs.four
        cases gk with
        | succ k' =>
         obtain rfl:k'=n - (t+1):=by omega
         have htn:t < n:=by omega
         have t4:decide ((t:Int) < (n:Int))=true:=decide_eq_true (by omega)
         have bt:(t:Int) < (n:Int):=by omega
         have bt1:(t:Int) < ((n+1:Nat):Int):=by omega
         have bt2:(t:Int) < (n:Int)+1:=by omega
         obtain ⟨an,aA,ak,ac,am,aB,aj,ad,p0,p1,p2,p3,hfa⟩:=fi.at_ (i:=t) (by rw [hli];omega);rw [hqi,hE3.out i t hin (by omega)] at hfa;obtain ⟨on_,oA,ok,oc,om,oB,oj,od,o0,o1,o2,o3,hfo⟩:=hOj.at_ (j:=t) hit htn;have sa:=(hES.out i t hin).sm (i:=380) (by decide) (by decide);have sx:=(e2.out t).sm (i:=300) (by decide) (by decide);have sp:Sm (E i t * X t n):=((hES.out i t hin).mulN (e2.out t)).sm (by decide) (by decide);have su:=(e3.out i t).sm (i:=400) (by decide) (by decide);clear fi hMj hOj;go_wp2_with fail;obtain ⟨X0,hX0⟩:∃ X,wj.drew=X:=⟨_,rfl⟩
         have hr1:Below wj.heap.size wj X0:=by rw [<- hX0];exact Zi (Below.refl _ _) 1
         have hSv1:Hid (∀ wx,Below wj.heap.size wj wx->wx.cell? ⟨gs,0,none⟩=some (.bool sn)/\wx.cell? ⟨gs,1,none⟩=some (.slice sA sk sc)/\wx.cell? ⟨gs,2,none⟩=some (.bool sm)/\wx.cell? ⟨gs,3,none⟩=some (.slice sB sj sd)/\wx.cell? ⟨go,i,none⟩=some (.slice (some ⟨ri.g,0,none⟩) (n+1) ri.c)/\wx.cell? ⟨ri.g,t * 4,none⟩=some (.bool an)/\wx.cell? ⟨ri.g,t * 4+1,none⟩=some (.slice aA ak ac)/\wx.cell? ⟨ri.g,t * 4+2,none⟩=some (.bool am)/\wx.cell? ⟨ri.g,t * 4+3,none⟩=some (.slice aB aj ad)/\wx.cell? ⟨gO,t * 4,none⟩=some (.bool on_)/\wx.cell? ⟨gO,t * 4+1,none⟩=some (.slice oA ok oc)/\wx.cell? ⟨gO,t * 4+2,none⟩=some (.bool om)/\wx.cell? ⟨gO,t * 4+3,none⟩=some (.slice oB oj od)):=Za (fun wx hbx=>⟨Zb hbx s0,Zb hbx s1,Zb hbx s2,Zb hbx s3,Zb hbx ci,Zb hbx p0,Zb hbx p1,Zb hbx p2,Zb hbx p3,Zb hbx o0,Zb hbx o1,Zb hbx o2,Zb hbx o3⟩);refine wp_heldS [14] hmx hSv1 (by rw [hX0];exact hr1) (fun hxs=>?_);rw [hX0];refine Zu5 12 [0,1,2,3,4,5,6,7,8,9,10,11] rfl (by kernel_rfl) (hSv1.out _ hr1) ?_
         iterate 12 (refine tk1 (v:=?_) rfl (Or.inl ⟨by kernel_rfl,?_⟩) ?_;rotate_left;(· intro W2 hSw;(try dsimp only at hSw);go_simp;try with_reducible rfl);try simp only [Act.put,putL_a,putL_z,putL_s,putG_a,putG_s,putG_z])
         refine tk0 ?_;refine Ze (i:=12) rfl (by kernel_rfl) (fun K hK=>?_);go_simp;refine (Zcb an aA ak ac am aB aj ad on_ oA ok oc om oB oj od _ _ X0 (hfa.below hr1) (hfo.below hr1) sa sx).mono ?_;rintro e wq0 ⟨hbq0,yn,yA,yk,yc,ym,yB,yj,yd,rfl,hy⟩;have hrq0:=hr1.trans (hbq0.mono hr1.size);refine hK.out _ _ (fun _=>hSv1.out _ hrq0) ?_;clear hK K
         try simp only [Act.put,putL_a,putL_z,putL_s]
         refine Ze (i:=13) rfl (by kernel_rfl) (fun K hK=>?_);go_simp;refine (Zgd sn sA sk sc sm sB sj sd yn yA yk yc ym yB yj yd _ _ wq0 (hsv.out.below hrq0) hy su sp).mono ?_;rintro e wq1 ⟨hbq1,zn,zA,zk,zc,zm,zB,zj,zd,rfl,hz⟩;have hrq1:=hrq0.trans (hbq1.mono hrq0.size);refine hK.out _ _ (fun _=>hSv1.out _ hrq1) ?_;clear hK K
         try simp only [Act.put,putL_a,putL_z,putL_s]
         have hbt:=Zc hrq1 hbs;obtain ⟨f0,f1,f2,f3,g0',g1',g2',g3'⟩:=hbt.four;obtain ⟨W7,hW7,p7,hK7,s7⟩:=Zao zn zA zk zc zm zB zj zd hbt;have hU7:=Za (hz.keptN hK7 hbt (Zay _ _ _ _ _ _ _ _));have hK8:Hid (Kept (fun g=>g=gs) W4 W7):=Za ((hK5.below hrq1).trans hK7);replace p7:=Za p7;clear hK7 hz hy;refine Zp (i:=14) rfl (by kernel_rfl) (by kernel_rfl) (fun K hK=>?_);go_simp;(try rw [hW7]);refine hK.out _ _ ?_;clear hK K
         try simp only [Act.put,putL_a,putL_z,putL_s]
         refine Zj (by kernel_rfl) ?_ _;refine OnlyNormal.normal ?_;clear hW7 f0 f1 f2 f3 g0' g1' g2' g3' hbt hSv1 hxs hr1 hrq1 hX0 s0 s1 s2 s3 p0 p1 p2 p3 o0 o1 o2 o3;have hU8:Hid (Fr W7 zn zA zk zc zm zB zj zd (upS E X i n (t+1))):=Za (by rw [Zs6 _ _ (by omega)];exact hU7.out);go_wp2_with fail
         go_roundg (n - (t+1))
         case measure=>omega
         case rel=>exact ⟨t+1,_,_,_,_,_,_,_,_,by omega,by go_num,by omega,p7.out,hU8,hK8.out⟩
        | zero =>
         obtain rfl:n=t:=by omega
         have t4:decide ((n:Int) < (n:Int))=false:=by simp
         have bi1:(i:Int) < ((n+1:Nat):Int):=by omega
         have bi2:(i:Int) < (n:Int)+1:=by omega
         obtain ⟨an,aA,ak,ac,am,aB,aj,ad,p0,p1,p2,p3,hfa⟩:=fi.at_ (i:=i) (by rw [hli];omega);rw [hqi,hE3.out i i hin (by omega)] at hfa;obtain ⟨on_,oA,ok,oc,om,oB,oj,od,o0,o1,o2,o3⟩:=hOj.raw.cells hin;have w0':=hOj.raw.frozen (i * 4);have w1':=hOj.raw.frozen (i * 4+1);have w2':=hOj.raw.frozen (i * 4+2);have w3':=hOj.raw.frozen (i * 4+3);have sa:=(hES.out i i hin).sm (i:=380) (by decide) (by decide);have su:=(e3.out i n).sm (i:=400) (by decide) (by decide);replace hMj:=Za hMj;replace hOj:=Za hOj;clear fi;go_wp2_with fail;obtain ⟨X0,hX0⟩:∃ X,wj.drew=X:=⟨_,rfl⟩
         have hr1:Below wj.heap.size wj X0:=by rw [<- hX0];exact Zi (Below.refl _ _) 1
         have hSv1:Hid (∀ wx,Below wj.heap.size wj wx->wx.cell? ⟨gs,0,none⟩=some (.bool sn)/\wx.cell? ⟨gs,1,none⟩=some (.slice sA sk sc)/\wx.cell? ⟨gs,2,none⟩=some (.bool sm)/\wx.cell? ⟨gs,3,none⟩=some (.slice sB sj sd)/\wx.cell? ⟨go,i,none⟩=some (.slice (some ⟨ri.g,0,none⟩) (n+1) ri.c)/\wx.cell? ⟨ri.g,i * 4,none⟩=some (.bool an)/\wx.cell? ⟨ri.g,i * 4+1,none⟩=some (.slice aA ak ac)/\wx.cell? ⟨ri.g,i * 4+2,none⟩=some (.bool am)/\wx.cell? ⟨ri.g,i * 4+3,none⟩=some (.slice aB aj ad)):=Za (fun wx hbx=>⟨Zb hbx s0,Zb hbx s1,Zb hbx s2,Zb hbx s3,Zb hbx ci,Zb hbx p0,Zb hbx p1,Zb hbx p2,Zb hbx p3⟩);refine wp_heldS [12] hmx hSv1 (by rw [hX0];exact hr1) (fun hxs=>?_);rw [hX0];refine Zu5 10 [0,1,2,3,4,5,6,7,8,9] rfl (by kernel_rfl) (hSv1.out _ hr1) ?_
         iterate 10 (refine tk1 (v:=?_) rfl (Or.inl ⟨by kernel_rfl,?_⟩) ?_;rotate_left;(· intro W2 hSw;(try dsimp only at hSw);go_simp;try with_reducible rfl);try simp only [Act.put,putL_a,putL_z,putL_s,putG_a,putG_s,putG_z])
         refine tk0 ?_;refine Ze (i:=10) rfl (by kernel_rfl) (fun K hK=>?_);go_simp;refine (Zgz sn sA sk sc sm sB sj sd an aA ak ac am aB aj ad _ _ X0 (hsv.out.below hr1) (hfa.below hr1) su sa (hE0.out i hin)).mono ?_;rintro e wq0 ⟨hbq0,zn,zA,zk,zc,zm,zB,zj,zd,rfl,hz⟩;have hrq0:=hr1.trans (hbq0.mono hr1.size);refine hK.out _ _ (fun _=>hSv1.out _ hrq0) ?_;clear hK K
         try simp only [Act.put,putL_a,putL_z,putL_s]
         refine Zu4 1 [11] rfl (by kernel_rfl) (hSv1.out _ hrq0) ?_
         (refine tk1 (v:=?_) rfl (Or.inl ⟨by kernel_rfl,?_⟩) ?_;rotate_left;(· intro W2 _;go_simp;try with_reducible rfl);try simp only [Act.put,putL_a,putL_z,putL_s,putG_a,putG_s,putG_z])
         refine tk0 ?_;have hOr:=hOj.out.below hrq0;have hMr:=hMj.out.below hrq0;have hxi:Hid (upS E X i n n / E i i=X i n):=Za (e1.out i hin).symm;rw [hxi.out] at hz;obtain ⟨Z9,hZ9⟩:∃ W,Zi1 wq0 gO i zn zA zk zc zm zB zj zd=W:=⟨_,rfl⟩;have hZ9':=hZ9;unfold Zi1 at hZ9'
         have hKz:Kept (fun g=>g=gO) wq0 Z9:=by rw [<- hZ9];exact Zl0 (Kept.refl _ _) (.inl rfl)
         have hO9:Hid (FTail 29 Z9 gO n i (fun i=>X i n)):=Za (by rw [<- hZ9];exact hOr.set_ hin hz)
         have hGr:∀ k,k=gO->∃ t cs,Blk wq0 k t cs/\NoLimb cs:=fun k hk=>by rw [hk];exact hOr.raw.box
         have hM9:Hid (MatB 23 29 Z9 go L1):=Za (hMr.keptG hKz hgoO.out (fun r hr=>hgrO.out r hr) hGr);have hK9:Hid (Kept (fun g=>g=gO) X2 Z9):=Za ((hK2.out.below (hBj.out.trans (hrq0.mono hBj.out.size))).trans hKz);have f0:=Zk hrq0 o0 w0';have f1:=Zk hrq0 o1 w1';have f2:=Zk hrq0 o2 w2';have f3:=Zk hrq0 o3 w3';have g0:=Zb hrq0 o0;have g1:=Zb hrq0 o1;have g2:=Zb hrq0 o2;have g3:=Zb hrq0 o3;clear hOr hMr hZ9 hKz hz;refine Zp (i:=12) rfl (by kernel_rfl) (by kernel_rfl) (fun K hK=>?_);go_simp;(try rw [hZ9']);refine hK.out _ _ ?_;clear hK K
         try simp only [Act.put,putL_a,putL_z,putL_s]
         refine Zj (by kernel_rfl) ?_ _;refine OnlyNormal.normal ?_;clear hZ9' f0 f1 f2 f3 g0 g1 g2 g3 hrq0 hr1 hSv1 hxs hX0 s0 s1 s2 s3 p0 p1 p2 p3 o0 o1 o2 o3 w0' w1' w2' w3';go_wp2_with fail
         go_roundg i
         case measure=>omega
         case rel=>exact ⟨by go_num,by omega,hM9.out,hO9.out,hK9.out⟩
    | succ j =>
     obtain rfl:j=n - (p+1):=by omega
     have hpn:p < n:=by omega
     have t2:decide ((p:Int) < (n:Int))=true:=decide_eq_true (by omega)
     have bp:(p:Int) < (n:Int):=by omega
     have bp1:(p:Int) < (n:Int)+1:=by omega
     have bpn:(p:Int) < ((n+1:Nat):Int):=by omega
     obtain ⟨rp,hrp⟩:=Zi3 (L:=L1) (i:=p) (by rw [hl1.out];exact hpn);have hqp:rp.q=Zcr L1 p:=(Zhj hrp).symm
     have hlp:rp.q.length=n+1:=by rw [hqp];exact hlen.out p hpn
     obtain ⟨cp,zp⟩:=hM.cell hrp;obtain ⟨fp,kp1,kp2⟩:=hM.row hrp;rw [hlp] at cp kp1;unfold maxLen at kp2;obtain ⟨n1,A1,k1,c1,m1,B1,j1,d1,p0,p1,p2,p3,hf1⟩:=fp.at_ (i:=p) (by rw [hlp];omega);rw [hqp,hE.out p p hpn (by omega)] at hf1;have hdp:Hid (Zl AR p p p=dQ AR p):=Za rfl;have hiff:=hf1.pos_iff
     have hwr:IntKind.i64.wrap ((p:Int)+1)=((p+1:Nat):Int):=by rw [IntKind.wrap_i64];omega
     cases n1
     case true =>
      have hnp:Hid (¬ posP AR n):=Za (fun h=>by have:=hiff.2 (by rw [hdp.out];exact h p hpn);simp at this);replace hM:=Za hM;replace hK:=Za hK;replace hiff:=Za hiff;clear fp hqp hlp hf1;go_wp2_with fail;go_returns;exact ⟨hBp.out,.inr ⟨hnp.out,rfl⟩⟩
     by_cases hk1:k1=0
     case pos =>
      have hnp:Hid (¬ posP AR n):=Za (fun h=>(hiff.2 (by rw [hdp.out];exact h p hpn)).2 hk1)
      have t3:((k1:Int) == 0)=true:=by simp [hk1]
      have t3':decide (k1=0)=true:=by simpa using hk1
      replace hM:=Za hM;replace hK:=Za hK;replace hiff:=Za hiff;have hk1l:=hf1.1.2.1;subst hk1;clear fp hqp hlp hf1;go_wp2_with fail;go_returns;exact ⟨hBp.out,.inr ⟨hnp.out,rfl⟩⟩
     have hpos2:Hid (posP AR (p+1)):=Za (fun t ht=>by
      rcases Nat.lt_or_ge t p with h1 | h1
      ·exact hpos.out t h1
      ·rw [show t=p by omega];exact (by rw [<- hdp.out];exact hiff.1 ⟨rfl,hk1⟩))
     have t3:((k1:Int) == 0)=false:=by simp;omega
     have t3':decide (k1=0)=false:=by simpa using hk1
     have hk1l:=hf1.1.2.1;replace hM:=Za hM;replace hK:=Za hK;replace hiff:=Za hiff;replace hk1:=Za hk1;clear fp hqp hlp hf1;go_wp2_with fail
     go_loopg [10] (n - (p+1)) (fun k iv wr=>∃ (i:Nat) (L2:List RF),i+k=n/\iv=.int .i64 i/\p+1 <= i/\MatB 23 29 wr go L2/\Hid (L2.length=n)/\Hid (L2.map RF.g=L.map RF.g)/\Hid (L2.map RF.c=L.map RF.c)/\Hid (ClrTo L1 L2 p p i)/\Kept (fun g=>g ∈ L.map RF.g) w1 wr)
     case atStart=>exact ⟨p+1,L1,by omega,by go_num,Nat.le_refl _,hM.out,hl1,hg1,hc1',Za (fun j hj=>by by_cases h1:j <= p \/ p+1 <= j;rw [if_pos h1];exact absurd h1 (by omega)),hK.out⟩
     case round =>
      clear hM hK cp zp p0 p1 p2 p3 hk1l;obtain ⟨wi,rfl⟩:∃ x:World,x=wr:=⟨_,rfl⟩;obtain ⟨i,L2,hik,rfl,hpi,hM,hl2,hg2,hc2',hcl,hK⟩:=hrel
      cases gk with
      | zero =>
       obtain rfl:n=i:=by omega
       have t4:decide ((n:Int) < (n:Int))=false:=by simp
       have hfin:Hid (L2.map RF.q=Zcl R (p+1)):=Za (by
        rw [ClrTo.done (by rw [hl1.out];exact hcl.out) (by rw [hl2.out,hl1.out]),hq1.out];rfl)
       replace hM:=Za hM;replace hK:=Za hK;go_wp2_with fail
       go_roundg (n - (p+1))
       case measure=>omega
       case rel=>exact ⟨p+1,L2,by omega,by go_num,hM.out,hl2,hg2,hc2',hfin,hpos2,hK.out⟩
      | succ j =>
       obtain rfl:j=n - (i+1):=by omega
       have hin:i < n:=by omega
       have t4:decide ((i:Int) < (n:Int))=true:=decide_eq_true (by omega)
       have bi:(i:Int) < (n:Int):=by omega
       obtain ⟨ri,hri2⟩:=Zi3 (L:=L2) (i:=i) (by rw [hl2.out];exact hin);obtain ⟨r2,hr2⟩:=Zi3 (L:=L2) (i:=p) (by rw [hl2.out];exact hpn)
       have hqi:ri.q=Zcr L1 i:=by
        have:=hcl.out i (by rw [hl1.out];exact hin);rw [Zhj hri2,if_pos (Or.inr (Nat.le_refl i))] at this;exact this
       have hqr:r2.q=Zcr L1 p:=by
        have:=hcl.out p (by rw [hl1.out];exact hpn);rw [Zhj hr2,if_pos (Or.inl (Nat.le_refl p))] at this;exact this
       have hli:ri.q.length=n+1:=by rw [hqi];exact hlen.out i hin
       have hlr:r2.q.length=n+1:=by rw [hqr];exact hlen.out p hpn
       obtain ⟨ci,zi⟩:=hM.cell hri2;obtain ⟨cr,zr⟩:=hM.cell hr2;obtain ⟨fi,ki1,ki2⟩:=hM.row hri2;obtain ⟨fr,kr1,kr2⟩:=hM.row hr2;rw [hli] at ci ki1;rw [hlr] at cr kr1;unfold maxLen at ki2 kr2;have hne2:=hM.ne2 hri2 hr2 (by omega);obtain ⟨n1,A1,k1,c1,m1,B1,j1,d1,p0,p1,p2,p3,hf1⟩:=fi.at_ (i:=p) (by rw [hli];omega);obtain ⟨n2,A2,k2,c2,m2,B2,j2,d2,q0,q1,q2,q3,hf2⟩:=fr.at_ (i:=p) (by rw [hlr];omega);rw [hqi,hE.out i p hin (by omega)] at hf1;rw [hqr,hE.out p p hpn (by omega)] at hf2;obtain ⟨by_,hby⟩:∃ q:Rat,Zl AR p i p / Zl AR p p p=q:=⟨_,rfl⟩;have hbyS:Hid (SmN 300 300 by_):=Za (by rw [<- hby];exact hl.out i p (by omega) hin hpos2.out);have sc1:=(hs.out p i p (by omega) hpos.out hin).sm (i:=380) (by decide) (by decide);have sc2:=(hs.out p p p (by omega) hpos.out hpn).sm (i:=380) (by decide) (by decide);have hdn0:Hid (Zl AR p p p ≠ 0):=Za (fun h=>by have:=hpos2.out p (by omega);rw [<- hdp.out,h] at this;exact absurd this (by decide));replace hby:=Za hby;have fiH:=Za fi;have frH:=Za fr;clear fi fr;replace hM:=Za hM;replace hK:=Za hK;go_wp2_with fail
       have hSv1:Hid (∀ wx,Below wi.heap.size wi wx->wx.cell? ⟨go,i,none⟩=some (.slice (some ⟨ri.g,0,none⟩) (n+1) ri.c)/\wx.cell? ⟨go,p,none⟩=some (.slice (some ⟨r2.g,0,none⟩) (n+1) r2.c)/\wx.cell? ⟨ri.g,p * 4,none⟩=some (.bool n1)/\wx.cell? ⟨ri.g,p * 4+1,none⟩=some (.slice A1 k1 c1)/\wx.cell? ⟨ri.g,p * 4+2,none⟩=some (.bool m1)/\wx.cell? ⟨ri.g,p * 4+3,none⟩=some (.slice B1 j1 d1)/\wx.cell? ⟨r2.g,p * 4,none⟩=some (.bool n2)/\wx.cell? ⟨r2.g,p * 4+1,none⟩=some (.slice A2 k2 c2)/\wx.cell? ⟨r2.g,p * 4+2,none⟩=some (.bool m2)/\wx.cell? ⟨r2.g,p * 4+3,none⟩=some (.slice B2 j2 d2)):=Za (fun wx hbx=>⟨Zb hbx ci,Zb hbx cr,Zb hbx p0,Zb hbx p1,Zb hbx p2,Zb hbx p3,Zb hbx q0,Zb hbx q1,Zb hbx q2,Zb hbx q3⟩);have hr1:Below wi.heap.size wi wi.drew:=Zi (Below.refl _ _) 1;refine wp_heldS [] hmx hSv1 hr1 (fun hxs1=>?_);refine Zu5 14 [0,1,2,3,4,5,6,7,8,9,10,11,12,13] rfl (by kernel_rfl) (hSv1.out _ hr1) ?_
       iterate 14 (refine tk1 (v:=?_) rfl (Or.inl ⟨by kernel_rfl,?_⟩) ?_;rotate_left;(· intro W2 hSw;(try dsimp only at hSw);go_simp;try with_reducible rfl);try simp only [Act.put,putL_a,putL_z,putL_s,putG_a,putG_s,putG_z])
       refine tk0 ?_;refine Zbi [(14,88),(15,11)] (fun _=>[]) [(14,88),(15,11)] (Zjx wi.heap.size (Zl AR p i p / Zl AR p p p) 14 15) 1 (by kernel_rfl) (fun _ _ _ _ _ hb h=>Zo1 hb h) (fun wx h=>hSv1.out _ (hr1.trans (h.mono hr1.size))) ?hop1 ?hfin1
       case hop1 =>
        intro p hp;simp only [List.mem_cons,List.not_mem_nil,or_false] at hp;simp only [List.map_cons,List.map_nil,Zam,Act.put,putL_a,putL_z,putL_s]
        rcases hp with rfl | rfl
        ·intro ν wx hb hP
         have hbx:=hr1.trans (hb.mono hr1.size);refine Zn (i:=14) rfl (fun K hK=>?_);go_simp;refine (Zgz n1 A1 k1 c1 m1 B1 j1 d1 n2 A2 k2 c2 m2 B2 j2 d2 _ _ wx (hf1.below hbx) (hf2.below hbx) sc1 sc2 hdn0.out).mono ?_;rintro e w5 ⟨hb5,na5,A5,k5,c5,nb5,B5,m5,d5,rfl,hf5⟩;exact hK.out _ _ ⟨_,rfl,(by simp only [Zjx];exact ⟨_,_,_,_,_,_,_,_,rfl,hf5⟩),hb5,trivial⟩
        ·intro ν wx hb hP
         refine Zn (i:=15) rfl (fun K hK=>?_);go_simp;exact hK.out _ _ ⟨_,rfl,(by simp only [Zjx];exact ⟨_,rfl,hb.size,Blk.new _ _ _⟩),(Below.refl _ _).alloc (Nat.le_refl _) _,trivial⟩
       case hfin1 =>
        intro ν wx hb hP;have h0:=hP (14,88) (by simp);have h4:=hP (15,11) (by simp);simp only [Zjx] at h0 h4;obtain ⟨bbn,bbA,bbk,bbc,bbm,bbB,bbj,bbd,h0,bbf⟩:=h0;obtain ⟨gbb,h4,kv,qv⟩:=h4;simp only [List.map_cons,List.map_nil,Zam,Act.put,putL_a,putL_z,putL_s];rw [h0,h4];clear h0 h4 hP ν;have hbx:=hr1.trans (hb.mono hr1.size);have qv4:=qv.four;have kv2:wi.heap.size <= gbb:=kv;refine (Zv bbn bbA bbk bbc bbm bbB bbj bbd hbx kv2 qv).elim (fun Zbb hq=>?_);have c0:=qv4.1;have c1':=qv4.2.1;have c2':=qv4.2.2.1;have c3:=qv4.2.2.2.1;have f0:=qv4.2.2.2.2.1;have f1:=qv4.2.2.2.2.2.1;have f2:=qv4.2.2.2.2.2.2.1;have f3:=qv4.2.2.2.2.2.2.2;have hZ:=hq.1;refine Ze (i:=16) rfl (by kernel_rfl) (fun K hK=>?_);go_simp;(try rw [hZ]);refine hK.out _ _ (fun _=>hSv1.out _ hq.2.1) ?_;clear hK K
        try simp only [Act.put,putL_a,putL_z,putL_s]
        refine Zj (by kernel_rfl) ?_ _;refine OnlyNormal.normal ?_;have hbZbb:=hq.2.1;have bbb:=Za hq.2.2.1;have hgbb:Hid (wi.heap.size <= gbb):=Za kv2;replace bbf:=Za (Fr.keep bbf hq.2.2.2.1);clear hq hZ c0 c1' c2' c3 f0 f1 f2 f3 qv4 qv kv kv2 hbx hb hr1 hSv1 hxs1;rw [hby.out] at bbf;have hM2:=hM.out.below hbZbb;have hK2:Kept (fun g=>g ∈ L.map RF.g) w1 Zbb:=hK.out.below hbZbb
        have hgb:Hid (gbb ∉ L.map RF.g):=Za (fun hmem=>by
         obtain ⟨t,cs,hb,-⟩:=hGX.out gbb hmem;have:=hb.lt;have:=hK.out.size;have:=hgbb.out
         omega)
        have hGZ:Hid (∀ k,k ∈ L.map RF.g->∃ t cs,Blk Zbb k t cs/\NoLimb cs):=Za (fun k hk=>hM2.boxes k (.inr (by rw [hg2.out];exact hk)));have hgi:Hid (ri.g ∈ L.map RF.g):=Za (by rw [<- hg2.out];exact List.mem_map.2 ⟨ri,List.mem_of_getElem? hri2,rfl⟩);have hgr:Hid (r2.g ∈ L.map RF.g):=Za (by rw [<- hg2.out];exact List.mem_map.2 ⟨r2,List.mem_of_getElem? hr2,rfl⟩);clear hK hM p0 p1 p2 p3 q0 q1 q2 q3 sc1 sc2 hf1 hf2 ci cr zi zr hbZbb;replace hK2:=Za hK2;go_wp2_with fail
        go_loopg [12] (n+1 - p) (fun k iv wr=>∃ (j:Nat) (q3:List Rat),j+k=n+1/\iv=.int .i64 j/\p <= j/\MatB 23 29 wr go (L2.set i ⟨ri.g,ri.c,q3⟩)/\Hid (q3.length=n+1)/\Hid (∀ t:Nat,q3[t]?.getD 0=if p <= t/\t < j then (Zcr L1 i)[t]?.getD 0 - by_ * (Zcr L1 p)[t]?.getD 0 else (Zcr L1 i)[t]?.getD 0)/\Kept (fun g=>g ∈ L.map RF.g) Zbb wr)
        case atStart =>
         refine ⟨p,ri.q,by omega,rfl,Nat.le_refl _,?_,Za hli,Za (fun t=>by rw [if_neg (by omega),hqi]),Kept.refl _ _⟩
         have e:L2.set i ⟨ri.g,ri.c,ri.q⟩=L2:=by
          apply List.ext_getElem?
          intro t;rw [List.getElem?_set]
          split
          ·rename_i h;subst h;rw [if_pos (by rw [hl2.out];exact hin),hri2]
          ·rfl
         rw [e];exact hM2
        case round =>
         clear hM2;obtain ⟨wj,rfl⟩:∃ x:World,x=wr:=⟨_,rfl⟩;obtain ⟨j,q3,hjk,rfl,hcj,hM3,hl3,hq3,hK3⟩:=hrel;obtain ⟨c0,z0⟩:=hM3.cell (i:=i) (r:=⟨ri.g,ri.c,q3⟩) (by rw [List.getElem?_set,if_pos rfl,if_pos (by rw [hl2.out];exact hin)]);simp only [hl3.out] at c0
         cases gk with
         | zero =>
          obtain rfl:j=n+1:=by omega
          have t5:decide (((n+1:Nat):Int) <= (n:Int))=false:=decide_eq_false (by omega);have t5':decide ((n:Int)+1 <= (n:Int))=false:=decide_eq_false (by omega)
          have hrel2:Hid ((L2.set i ⟨ri.g,ri.c,q3⟩).length=n/\(L2.set i ⟨ri.g,ri.c,q3⟩).map RF.g=L.map RF.g/\(L2.set i ⟨ri.g,ri.c,q3⟩).map RF.c=L.map RF.c/\ClrTo L1 (L2.set i ⟨ri.g,ri.c,q3⟩) p p (i+1)):=Za (by
           refine ⟨by rw [List.length_set];exact hl2.out,?_,?_,?_⟩
           ·rw [Zhz (s:=⟨ri.g,ri.c,q3⟩) hri2 rfl];exact hg2.out
           ·rw [Zhz (s:=⟨ri.g,ri.c,q3⟩) hri2 rfl];exact hc2'.out
           ·refine hcl.out.step (by rw [hl2.out,hl1.out]) (by rw [hl1.out];exact hin) (by omega) ?_
            refine rowR_eq (by rw [hl3.out,hlen.out i hin]) (fun t=>?_)
            rw [hq3.out t,hlen.out i hin,hE.out i p hin (by omega),hE.out p p hpn (by omega),hby.out])
          have hK6:Hid (Kept (fun g=>g ∈ L.map RF.g) w1 wj):=Za (hK2.out.trans hK3);replace hM3:=Za hM3;clear hK3;go_wp2_with fail
          go_roundg (n - (i+1))
          case measure=>omega
          case rel=>exact ⟨i+1,_,by omega,by go_num,by omega,hM3.out,Za hrel2.out.1,Za hrel2.out.2.1,Za hrel2.out.2.2.1,Za hrel2.out.2.2.2,hK6.out⟩
         | succ gk' =>
          obtain rfl:gk'=n - j:=by omega
          have hjm:j < n+1:=by omega
          have t5:decide ((j:Int) <= (n:Int))=true:=decide_eq_true (by omega)
          have bj:(j:Int) < (n:Int)+1:=by omega
          have bj2:(j:Int) < ((n+1:Nat):Int):=by omega
          obtain ⟨c1',z1⟩:=hM3.cell (i:=p) (r:=r2) (by rw [List.getElem?_set,if_neg (by omega)];exact hr2);rw [hlr] at c1';obtain ⟨f3,-,-⟩:=hM3.row (i:=i) (r:=⟨ri.g,ri.c,q3⟩) (by rw [List.getElem?_set,if_pos rfl,if_pos (by rw [hl2.out];exact hin)]);obtain ⟨f4,-,-⟩:=hM3.row (i:=p) (r:=r2) (by rw [List.getElem?_set,if_neg (by omega)];exact hr2);obtain ⟨n4,A4,k4,c4,m4,B4,j4,d4,q0,q1,q2,q3',hf4⟩:=f4.at_ (i:=j) (by rw [hlr];exact hjm);rw [hqr] at hf4;have hbb:=hK3.blk bbb.out hgb.out;obtain ⟨x0,x1,x2,x3,-⟩:=hbb.four;have hfb:Fr wj bbn bbA bbk bbc bbm bbB bbj bbd by_:=⟨hK3.wd bbf.out.1 hGZ.out,hK3.wd bbf.out.2 hGZ.out⟩;have hl3':=hl3.out;obtain ⟨n5,A5,k5,c5,m5,B5,j5,d5,u0,u1,u2,u3,hf5⟩:=f3.at_ (i:=j) (by rw [hl3'];exact hjm)
          have hf5c:q3[j]?.getD 0=(Zcr L1 i)[j]?.getD 0:=by
           have h1:=hq3.out j;rw [if_neg (by omega)] at h1;exact h1
          simp only [hf5c] at hf5;have v0:=f3.frozen (j * 4);have v1:=f3.frozen (j * 4+1);have v2:=f3.frozen (j * 4+2);have v3:=f3.frozen (j * 4+3);have hEi:Hid (SmN 380 380 ((Zcr L1 i)[j]?.getD 0)):=Za (by rw [hE.out i j hin (by omega)];exact hs.out p i j (by omega) hpos.out hin);have hEp:Hid (SmN 380 380 ((Zcr L1 p)[j]?.getD 0)):=Za (by rw [hE.out p j hpn (by omega)];exact hs.out p p j (by omega) hpos.out hpn);have sc1:=hbyS.out.sm (i:=300) (by decide) (by decide);have sc2:=hEp.out.sm (i:=380) (by decide) (by decide);have sc3:=hEi.out.sm (i:=380) (by decide) (by decide);have sc4:Sm (by_ * (Zcr L1 p)[j]?.getD 0):=(hbyS.out.mulN hEp.out).sm (by decide) (by decide);replace hM3:=Za hM3;replace hK3:=Za hK3;clear f4 hbb f3 hl3' hf5c;go_wp2_with fail;obtain ⟨X0,hX0⟩:∃ X,wj.drew=X:=⟨_,rfl⟩
          have hr1:Below wj.heap.size wj X0:=by rw [<- hX0];exact Zi (Below.refl _ _) 1
          have hSv1:Hid (∀ wx,Below wj.heap.size wj wx->wx.cell? ⟨go,i,none⟩=some (.slice (some ⟨ri.g,0,none⟩) (n+1) ri.c)/\wx.cell? ⟨go,p,none⟩=some (.slice (some ⟨r2.g,0,none⟩) (n+1) r2.c)/\wx.cell? ⟨ri.g,j * 4,none⟩=some (.bool n5)/\wx.cell? ⟨ri.g,j * 4+1,none⟩=some (.slice A5 k5 c5)/\wx.cell? ⟨ri.g,j * 4+2,none⟩=some (.bool m5)/\wx.cell? ⟨ri.g,j * 4+3,none⟩=some (.slice B5 j5 d5)/\wx.cell? ⟨gbb,0,none⟩=some (.bool bbn)/\wx.cell? ⟨gbb,1,none⟩=some (.slice bbA bbk bbc)/\wx.cell? ⟨gbb,2,none⟩=some (.bool bbm)/\wx.cell? ⟨gbb,3,none⟩=some (.slice bbB bbj bbd)/\wx.cell? ⟨r2.g,j * 4,none⟩=some (.bool n4)/\wx.cell? ⟨r2.g,j * 4+1,none⟩=some (.slice A4 k4 c4)/\wx.cell? ⟨r2.g,j * 4+2,none⟩=some (.bool m4)/\wx.cell? ⟨r2.g,j * 4+3,none⟩=some (.slice B4 j4 d4)):=Za (fun wx hbx=>⟨Zb hbx c0,Zb hbx c1',Zb hbx u0,Zb hbx u1,Zb hbx u2,Zb hbx u3,Zb hbx x0,Zb hbx x1,Zb hbx x2,Zb hbx x3,Zb hbx q0,Zb hbx q1,Zb hbx q2,Zb hbx q3'⟩);refine wp_heldS [23] hmx hSv1 (by rw [hX0];exact hr1) (fun hxs=>?_);rw [hX0];refine Zu5 20 [0,1,2,3,4,5,6,7,8,9,10,11,12,13,14,15,16,17,18,19] rfl (by kernel_rfl) (hSv1.out _ hr1) ?_
          iterate 20 (refine tk1 (v:=?_) rfl (Or.inl ⟨by kernel_rfl,?_⟩) ?_;rotate_left;(· intro W2 hSw;(try dsimp only at hSw);go_simp;try with_reducible rfl);try simp only [Act.put,putL_a,putL_z,putL_s,putG_a,putG_s,putG_z])
          refine tk0 ?_;refine Ze (i:=20) rfl (by kernel_rfl) (fun K hK=>?_);go_simp;refine (Zcb bbn bbA bbk bbc bbm bbB bbj bbd n4 A4 k4 c4 m4 B4 j4 d4 _ _ X0 (hfb.below hr1) (hf4.below hr1) sc1 sc2).mono ?_;rintro e wq0 ⟨hbq0,yn,yA,yk,yc,ym,yB,yj,yd,rfl,hy⟩;have hrq0:=hr1.trans (hbq0.mono hr1.size);refine hK.out _ _ (fun _=>hSv1.out _ hrq0) ?_;clear hK K
          try simp only [Act.put,putL_a,putL_z,putL_s]
          refine Ze (i:=21) rfl (by kernel_rfl) (fun K hK=>?_);go_simp;refine (Zgd n5 A5 k5 c5 m5 B5 j5 d5 yn yA yk yc ym yB yj yd _ _ wq0 (hf5.below hrq0) hy sc3 sc4).mono ?_;rintro e wq1 ⟨hbq1,zn,zA,zk,zc,zm,zB,zj,zd,rfl,hz⟩;have hrq1:=hrq0.trans (hbq1.mono hrq0.size);refine hK.out _ _ (fun _=>hSv1.out _ hrq1) ?_;clear hK K
          try simp only [Act.put,putL_a,putL_z,putL_s]
          refine Zu4 1 [22] rfl (by kernel_rfl) (hSv1.out _ hrq1) ?_
          (refine tk1 (v:=?_) rfl (Or.inl ⟨by kernel_rfl,?_⟩) ?_;rotate_left;(· intro W2 _;go_simp;try with_reducible rfl);try simp only [Act.put,putL_a,putL_z,putL_s,putG_a,putG_s,putG_z])
          refine tk0 ?_;have hM5:=hM3.out.below hrq1;obtain ⟨Z9,hZ9⟩:∃ W,Zi1 wq1 ri.g j zn zA zk zc zm zB zj zd=W:=⟨_,rfl⟩;have hZ9':=hZ9;unfold Zi1 at hZ9';have hK9:Hid (Kept (fun g=>g ∈ L.map RF.g) Zbb Z9):=Za (by rw [<- hZ9];exact Zl0 (hK3.out.below hrq1) (.inl hgi.out))
          have hM9:Hid (MatB 23 29 Z9 go (L2.set i ⟨ri.g,ri.c,q3.set j ((Zcr L1 i)[j]?.getD 0 - by_ * (Zcr L1 p)[j]?.getD 0)⟩)):=Za (by
           have h1:=hM5.set_ (i:=i) (r:=⟨ri.g,ri.c,q3⟩) (by rw [List.getElem?_set,if_pos rfl,if_pos (by rw [hl2.out];exact hin)]) (k:=j) (by rw [show RF.q ⟨ri.g,ri.c,q3⟩=q3 from rfl,hl3.out];exact hjm) hz;rw [List.set_set] at h1
           rw [<- hZ9];exact h1)
          have f0:=Zk hrq1 u0 v0;have f1:=Zk hrq1 u1 v1;have f2:=Zk hrq1 u2 v2;have f3:=Zk hrq1 u3 v3;have g0:=Zb hrq1 u0;have g1:=Zb hrq1 u1;have g2:=Zb hrq1 u2;have g3:=Zb hrq1 u3;clear hM5 hZ9;refine Zp (i:=23) rfl (by kernel_rfl) (by kernel_rfl) (fun K hK=>?_);go_simp;(try rw [hZ9']);refine hK.out _ _ ?_;clear hK K
          try simp only [Act.put,putL_a,putL_z,putL_s]
          refine Zj (by kernel_rfl) ?_ _;refine OnlyNormal.normal ?_;clear hZ9' f0 f1 f2 f3 g0 g1 g2 g3 hrq1 hr1 hSv1 hxs hX0 u0 u1 u2 u3 x0 x1 x2 x3 v0 v1 v2 v3 q0 q1 q2 q3' hz hy hf5 hM3 hK3 c0 c1' z0 z1;go_wp2_with fail
          go_roundg (n - j)
          case measure=>omega
          case rel=>exact ⟨j+1,_,by omega,by go_num,by omega,hM9.out,Za (by rw [List.length_set];exact hl3.out),Za (Ztn (by rw [hl3.out,hlen.out i hin]) hcj (by rw [hlen.out i hin];exact hjm) rfl hq3.out),hK9.out⟩
theorem Zhd {A:Nat->Nat->Rat} {n c:Nat} (h:∀ i,i < n->A i c=0):∀ t i,t <= n->i < n->Zl A t i c=0
 | 0,i,_,hi=>h i hi
 | t+1,i,ht,hi=>by
  show (if t < i then _ else _)=_;rw [Zhd h t i (by omega) hi,Zhd h t t (by omega) (by omega)]
  split
  ·grind
  ·rfl
theorem SmN.zeroC (a b:Nat):SmN (a+1) (b+1) 0:=⟨by have:=Zb2 (a+1);show (0:Rat).num.natAbs < _;exact this,by
 show (1:Nat) < pw (b+1);rw [Zaq];have:=Zb2 b
 omega⟩
section
variable {Q:List (List Rat)} {n:Nat}
theorem Zoo (hm:∀ i,i < n->(Q[i]?.getD []).length=n) {t i k:Nat} (ht:t <= n) (hi:i < n):Zl (Zg (Zap Q (List.replicate n 0) n)) t i k=if k < n then Zl (Zg Q) t i k else 0:=by
 by_cases hk:k < n
 ·rw [if_pos hk]
  exact Zb0 (n:=n) (m:=n) (fun i k hi hk=>Zd5 hm hi hk) (Nat.le_refl _) t i k ht hi hk
 ·rw [if_neg hk]
  refine Zhd (n:=n) (fun i hi=>?_) t i ht hi
  rcases Nat.lt_or_ge n k with h | h
  ·exact Zkk hm hi h
  ·obtain rfl:n=k:=by omega
   rw [Zfd hm hi]
   simp [List.getElem?_replicate,hi]
theorem Zmb (hm:∀ i,i < n->(Q[i]?.getD []).length=n) {i:Nat} (hi:i < n):dQ (Zg (Zap Q (List.replicate n 0) n)) i=dQ (Zg Q) i:=by
 unfold dQ;rw [Zoo hm (by omega) hi,if_pos hi]
theorem Zgs (hm:∀ i,i < n->(Q[i]?.getD []).length=n) {t:Nat} (ht:t <= n):posP (Zg (Zap Q (List.replicate n 0) n)) t ↔ posP (Zg Q) t:=
 ⟨fun h s hs=>by rw [<- Zmb hm (by omega)];exact h s hs,fun h s hs=>by rw [Zmb hm (by omega)];exact h s hs⟩
theorem wide0_l (hm:∀ i,i < n->(Q[i]?.getD []).length=n) {i k:Nat} (hi:i < n) (hk:k < n):lQ (Zg (Zap Q (List.replicate n 0) n)) i k=lQ (Zg Q) i k:=by
 unfold lQ;rw [Zmb hm hk,Zoo hm (by omega) hi,if_pos hk]
theorem Zoe (hm:∀ i,i < n->(Q[i]?.getD []).length=n):Zrf (fun i j=>Zl (Zg (Zap Q (List.replicate n 0) n)) i i j) (fun _ _=>0) n:=by
 have hz:∀ (E:Nat->Nat->Rat) i t,upS E (fun _ _=>0) i n t=E i n:=fun E i t=>by
  unfold upS
  have:Z4 t (fun j=>if i < j then E i j * 0 else 0)=0:=by
   induction t with
   | zero=>rfl
   | succ t ih=>simp only [Z4];rw [ih];split <;> grind
  rw [this];grind
 have hE:∀ i,Zl (Zg (Zap Q (List.replicate n 0) n)) i i n=0 \/ n <= i:=fun i=>by
  rcases Nat.lt_or_ge i n with h | h
  ·left;rw [Zoo hm (by omega) h,if_neg (by omega)]
  ·exact .inr h
 refine ⟨fun i hi=>?_,fun i=>SmN.zeroC 299 299,fun i t=>?_⟩
 ·rw [hz]
  show (0:Rat)=Zl _ i i n / _
  rcases hE i with h | h
  ·rw [h];grind
  ·omega
 ·rw [hz]
  show SmN 400 400 (Zl _ i i n)
  rcases hE i with h | h
  ·rw [h];exact SmN.zeroC 399 399
  ·have h0:∀ t,Zl (Zg (Zap Q (List.replicate n 0) n)) t i n=0 \/ True:=fun _=>.inr trivial
   have h1:∀ t j,n <= j->Zl (Zg (Zap Q (List.replicate n 0) n)) t j n=0:=fun t=>by
    induction t with
    | zero =>
     intro j hj;show Zg _ j n=0;unfold Zg;rw [List.getElem?_eq_none (l:=Zap Q _ n) (by rw [Zd6];exact hj)];rfl
    | succ t ih =>
     intro j hj;show (if t < j then _ else _)=_
     have h2:Zl (Zg (Zap Q (List.replicate n 0) n)) t t n=0:=by
      rcases Nat.lt_or_ge t n with h3 | h3
      ·rw [Zoo hm (by omega) h3,if_neg (by omega)]
      ·exact ih t h3
     rw [ih j hj,h2]
     split
     ·grind
     ·rfl
   rw [h1 i i h];exact SmN.zeroC 399 399
end
theorem Zny (n:Nat) (w:World) (hn9:n <= 100) :
    Calls Tryz.prog 100 #[.int .i64 n] w fun e w'=>∃ v,e=.returned v/\Below w.heap.size w w'/\OwnF 29 w' w.heap.size v (List.replicate n 0):=by
 obtain ⟨iF,hi,hz0,hz1,hz2⟩:=info_parts Zq5;go_enter Tryz.func100,Tryz.ntmps100;go_wp2_with fail
 go_loopg [3,4] n (fun k ov iv wr=>∃ i:Nat,i+k=n/\iv=.int .i64 i/\Below w.heap.size w wr/\OwnF 29 wr w.heap.size ov (List.replicate i 0))
 case atStart=>exact ⟨0,by omega,rfl,Below.refl _ _,OwnF.nil _ _ _⟩
 case round =>
  obtain ⟨i,hik,rfl,hB,hO⟩:=hrel
  cases gk with
  | zero =>
   obtain rfl:n=i:=by omega
   have t1:decide ((n:Int) < (n:Int))=false:=by simp
   replace hO:=Za hO;go_wp2_with fail;go_ret;exact ⟨_,rfl,hB,hO.out⟩
  | succ k' =>
   obtain rfl:k'=n - (i+1):=by omega
   have hin:i < n:=by omega
   have t1:decide ((i:Int) < (n:Int))=true:=decide_eq_true (by omega);obtain ⟨zA,zc,rfl,hFz⟩:=hO.fl
   have hrl:(List.replicate i (0:Rat)).length=i:=by simp
   rw [hrl] at hFz ⊢;replace hO:=Za hO;replace hFz:=Za hFz;go_wp2_with fail;refine (Zic 0 wr (by decide) (by decide)).mono ?_;rintro e w1 ⟨hb1,xn,xA,xk,xc,xm,xB,xj,xd,rfl,hf⟩;obtain ⟨Y1,hY1⟩:∃ Y,w1.alloc (.cells #[.bool xn,.slice xA xk xc,.bool xm,.slice xB xj xd] 29)=Y:=⟨_,rfl⟩
   have hBY:Below w1.heap.size w1 Y1:=by rw [<- hY1];exact (Below.refl _ _).alloc (Nat.le_refl _) _
   have hbl:Blk Y1 w1.heap.size 29 #[.bool xn,.slice xA xk xc,.bool xm,.slice xB xj xd]:=by rw [<- hY1];exact Blk.new _ _ _
   have hfY:Fr Y1 xn xA xk xc xm xB xj xd 0:=hf.below hBY;have hOY:=(hO.out.kept hb1).kept hBY;have hBB:=hB.trans ((hb1.trans (hBY.mono hb1.size)).mono hB.size);have hs2:=hBB.size;rw [hrl] at hOY;go_wp2_with ((try rw [hY1]);at_builtin;refine Zd7 _ rfl (.tmp 10) (.tmp 12) 23 rfl w.heap.size 29 iF Tryz.underlying23 hi hz0 hz1 hz2 _ _ rfl hOY _ (some ⟨w1.heap.size,0,none⟩) 1 1 [⟨xn,xA,xk,xc,xm,xB,xj,xd,0⟩] rfl (Zbm _ hbl) rfl (by intro e he;rw [List.mem_singleton] at he;subst he;exact hfY) (by simp;omega) hs2 ?_;intro v2 w5 hO2 hg5 hk5);have hB5:=hBB.grown hg5 hs2 (fun k hk=>hOY.row_ge k hk);simp only [List.map_cons,List.map_nil] at hO2
   go_roundg (n - (i+1))
   case measure=>omega
   case rel=>exact ⟨i+1,by omega,by go_num,hB5,by rw [List.replicate_succ'];exact hO2⟩
theorem Zfj (A:Option Addr) (n c:Nat) (rs:List RX) (w:World) (h:MXL w A n c rs) (hF:FacC rs) (E:Int) (hE:Zar rs=E) :
    Calls Tryz.prog 36 #[.slice A n c] w fun e w'=>e=.returned (.int .i64 E)/\Below w.heap.size w w':=by
 have hmx:Tryz.prog.follows .mixedOrders=true:=by kernel_rfl
 have hl:=Za h.1;have hnc:=h.2.1;have hcm:=h.2.2.1;unfold maxLen at hcm;replace hE:=Za hE
 by_cases h6:6 < n
 ·have t1:decide ((6:Int) < (n:Int))=true:=decide_eq_true (by omega)
  obtain rfl:E=4:=by rw [<- hE.out];exact Zet (by unfold long6;rw [hl.out,decide_eq_true h6];rfl)
  clear h;go_enter Tryz.func36,Tryz.ntmps36;go_wp2_with fail;go_ret;exact ⟨rfl,by first | exact Below.refl _ _ | exact Zi (Below.refl _ _) _⟩
 have t1:decide ((6:Int) < (n:Int))=false:=decide_eq_false (by omega);have hH:=Za h;clear h;go_enter Tryz.func36,Tryz.ntmps36;go_wp2_with fail
 go_loopg [3] n (fun t iv wr=>∃ i:Nat,i+t=n/\iv=.int .i64 i/\Hid (∀ j r,j < i->rs[j]?=some r->r.long6=false)/\Below w.heap.size w wr)
 case atStart=>exact ⟨0,by omega,rfl,Za (fun j r hj=>by omega),Below.refl _ _⟩
 case round =>
  obtain ⟨w1,rfl⟩:∃ x:World,x=wr:=⟨_,rfl⟩;obtain ⟨i,hik,rfl,hall,hB1⟩:=hrel
  cases gk with
  | succ t =>
   obtain rfl:t=n - (i+1):=by omega
   have hin:i < n:=by omega
   have t2:decide ((i:Int) < (n:Int))=true:=decide_eq_true (by omega)
   have bi:(i:Int) < (n:Int):=by omega
   obtain ⟨g,o,r,rfl,he,c0,hL⟩:=(hH.out.below hB1).at_ hin;have hrl:=hL.nlenC;unfold maxLen at hrl;clear hL
   by_cases hx:6 < r.n
   ·have t3:decide ((6:Int) < (r.n:Int))=true:=decide_eq_true (by omega)
    obtain rfl:E=4:=by
     rw [<- hE.out];refine Zet ?_;unfold long6;have:rs.any RX.long6=true:=List.any_eq_true.2 ⟨r,List.mem_of_getElem? he,by unfold RX.long6;exact decide_eq_true hx⟩;rw [this,Bool.or_true]
    replace he:=Za he;replace hx:=Za hx;go_wp2_with fail;go_ret;exact ⟨rfl,hB1⟩
   ·have t3:decide ((6:Int) < (r.n:Int))=false:=decide_eq_false (by omega)
    have hall2:Hid (∀ j r',j < i+1->rs[j]?=some r'->r'.long6=false):=Za (fun j r' hj he'=>by
     rcases Nat.lt_or_ge j i with h' | h'
     ·exact hall.out j r' h' he'
     ·obtain rfl:j=i:=by omega
      rw [he] at he'
      cases he'
      unfold RX.long6;exact decide_eq_false hx)
    replace he:=Za he;replace hx:=Za hx;go_wp2_with fail
    go_roundg (n - (i+1))
    case measure=>omega
    case rel=>exact ⟨i+1,by omega,by go_num,hall2,hB1⟩
  | zero =>
   obtain rfl:n=i:=by omega
   have t2:decide ((n:Int) < (n:Int))=false:=by simp
   have hlm:Hid (long6 rs=false):=Za (by
    unfold long6;rw [hl.out,decide_eq_false h6,Bool.false_or,List.any_eq_false];intro r hr;obtain ⟨j,hj,e⟩:=List.getElem_of_mem hr;have:=hall.out j r (by rw [hl.out] at hj;exact hj) (by rw [List.getElem?_eq_getElem hj,e])
    rw [this];decide)
   by_cases hn0:n=0
   ·have t3:((n:Int) == 0)=true:=by simp [hn0]
    have t3':decide (n=0)=true:=by simpa using hn0
    obtain rfl:E=8:=by rw [<- hE.out];exact Znt hlm.out (by rw [hl.out];exact hn0)
    replace hn0:=Za hn0;go_wp2_with fail;go_ret;exact ⟨rfl,hB1⟩
   have t3:((n:Int) == 0)=false:=by simp;omega
   have t3':decide (n=0)=false:=by simpa using hn0
   replace hn0:=Za hn0;replace h6:=Za h6;go_wp2_with fail
   go_loopg [4] n (fun t iv wr=>∃ i:Nat,i+t=n/\iv=.int .i64 i/\Hid (∀ j r,j < i->rs[j]?=some r->Zc1 rs.length r=true)/\Below w.heap.size w wr)
   case atStart=>exact ⟨0,by omega,rfl,Za (fun j r hj=>by omega),hB1⟩
   case round =>
    clear hB1 hall;obtain ⟨wi,rfl⟩:∃ x:World,x=wr:=⟨_,rfl⟩;obtain ⟨i,hik,rfl,hall,hBi⟩:=hrel
    cases gk with
    | succ t =>
     obtain rfl:t=n - (i+1):=by omega
     have hin:i < n:=by omega
     have t4:decide ((i:Int) < (n:Int))=true:=decide_eq_true (by omega)
     have bi:(i:Int) < (n:Int):=by omega
     obtain ⟨g,o,r,rfl,he,c0,hL⟩:=(hH.out.below hBi).at_ hin;have hrl:=hL.nlenC;unfold maxLen at hrl;have bad:Hid (Zc1 rs.length r=false->Zar rs=8):=Za (fun hf=>Zni hlm.out (by rw [hl.out];exact hn0.out) (List.mem_of_getElem? he) hf)
     have good:Hid (Zc1 rs.length r=true->∀ j r',j < i+1->rs[j]?=some r'->Zc1 rs.length r'=true):=Za (fun hf j r' hj he'=>by
      rcases Nat.lt_or_ge j i with h' | h'
      ·exact hall.out j r' h' he'
      ·obtain rfl:j=i:=by omega
       rw [he] at he'
       cases he'
       exact hf)
     replace he:=Za he
     by_cases hq:r.n=n
     case neg =>
      have t5:((r.n:Int) == (n:Int))=false:=beq_eq_false_iff_ne.2 (by omega)
      have t5':((r.n:Int) != (n:Int))=true:=by rw [bne,t5];rfl
      have t5'':decide (r.n=n)=false:=by simpa using hq
      obtain rfl:E=8:=by rw [<- hE.out];exact bad.out (by unfold Zc1;rw [hl.out,decide_eq_false hq];rfl)
      replace hq:=Za hq;clear hL;go_wp2_with fail;go_ret;exact ⟨rfl,hBi⟩
     have t5:((r.n:Int) == (n:Int))=true:=beq_iff_eq.2 (by omega)
     have t5':((r.n:Int) != (n:Int))=false:=by rw [bne,t5];rfl
     have t5'':decide (r.n=n)=true:=by simpa using hq
     obtain ⟨y,hy⟩:∃ y,Zcf r.es=y:=⟨_,rfl⟩;have hV:=Za (fun W1 (hb:Below wi.heap.size wi W1)=>Zgx r.A r.n r.c r.es W1 (hL.below hb) y hy);have hqn:=Za hq;replace hq:=Za hq;clear hL
     cases y
     ·obtain rfl:E=8:=by rw [<- hE.out];exact bad.out (by unfold Zc1;rw [hy];simp)
      clear hy;go_wp2_with fail;refine (hV.out _ (by first | exact Below.refl _ _ | exact Zi (Below.refl _ _) _)).mono ?_;rintro e' w2 ⟨rfl,hb2⟩;go_wp2_with fail;go_ret;exact ⟨rfl,hBi.trans (hb2.mono hBi.size)⟩
     ·have hall2:=Za (good.out (by unfold Zc1;rw [hy,hl.out,hqn.out,decide_eq_true rfl];rfl))
      clear hy;go_wp2_with fail;refine (hV.out _ (by first | exact Below.refl _ _ | exact Zi (Below.refl _ _) _)).mono ?_;rintro e' w2 ⟨rfl,hb2⟩;go_wp2_with fail
      go_roundg (n - (i+1))
      case measure=>omega
      case rel=>exact ⟨i+1,by omega,by go_num,hall2,hBi.trans (hb2.mono hBi.size)⟩
    | zero =>
     obtain rfl:n=i:=by omega
     have t4:decide ((n:Int) < (n:Int))=false:=by simp
     have hV:Hid (covV rs):=Za ⟨hlm.out,by rw [hl.out];exact hn0.out,by
      rw [List.all_eq_true];intro r hr;obtain ⟨j,hj,e⟩:=List.getElem_of_mem hr
      exact hall.out j r (by rw [hl.out] at hj;exact hj) (by rw [List.getElem?_eq_getElem hj,e])⟩
     have hM:=Za (hV.out.good (hH.out.below hBi));have hSm:Hid (∀ a b,Sm (Zg (qM rs) a b)):=Za (fun a b=>(hV.out.small64 hH.out).smC (by decide) a b);have hrow:Hid (∀ a,a < n->((qM rs)[a]?.getD []).length=n):=Za (fun a ha=>hV.out.row hH.out a ha);go_wp2_with fail
     go_loopg [5] n (fun t jv wr=>∃ j:Nat,j+t=n/\jv=.int .i64 j/\Hid (∀ a b,a < j->b < a->Zg (qM rs) a b=Zg (qM rs) b a)/\Below wi.heap.size wi wr)
     case atStart=>exact ⟨0,by omega,rfl,Za (fun a b ha=>by omega),Below.refl _ _⟩
     case round =>
      obtain ⟨wj,rfl⟩:∃ x:World,x=wr:=⟨_,rfl⟩;obtain ⟨j,hjk,rfl,hsy,hBj⟩:=hrel;have hBwj:=hBi.trans (hBj.mono hBi.size)
      cases gk with
      | zero =>
       obtain rfl:n=j:=by omega
       have t5:decide ((n:Int) < (n:Int))=false:=by simp
       have hs:Hid (Zfv (qM rs)=true):=Za (by
        unfold Zfv;rw [decide_eq_true_eq];intro a ha b hb;rw [show (qM rs).length=n by unfold qM;rw [List.length_map,hl.out]] at ha
        exact hsy.out a b ha hb)
       have hFP:Hid (FacP (Zg (qM rs)) n):=Za (by have:=hF hV.out hs.out;rw [hl.out] at this;exact this);go_wp2_with fail;refine (Zny n wj (by have:=h6.out;omega)).mono ?_;rintro e w5 ⟨v,rfl,hb5,hO⟩;obtain ⟨zA,zc,rfl,hz⟩:=hO.fl
       have hrl:(List.replicate n (0:Rat)).length=n:=by simp
       rw [hrl] at hz ⊢;replace hz:=Za hz;clear hO;go_wp2_with fail;refine (Zh3 A n c (qM rs) zA zc _ w5 (hM.out.below (hBj.trans (hb5.mono hBj.size))) hz.out (by have:=hn0.out;omega) (by have:=h6.out;omega) hrow.out (fun t i k ht hp hi=>?_) (fun i k hk hi hp=>?_) (fun _ _=>0) (fun _=>Zoe hrow.out)).mono ?_
       ·rw [Zoo hrow.out ht hi]
        split
        ·rename_i h1;exact hFP.out.s t i k ht ((Zgs hrow.out ht).1 hp) hi h1
        ·exact SmN.zeroC 379 379
       ·rw [wide0_l hrow.out hi (by omega)]
        exact hFP.out.l i k hk hi ((Zgs hrow.out (by omega)).1 hp)
       rintro e w6 ⟨hb6,⟨hp,B,c',rfl,-⟩ | ⟨hp,rfl⟩⟩
       ·obtain rfl:E=0:=by rw [<- hE.out];exact hV.out.pos hs.out (by rw [hl.out];exact (Zgs hrow.out (Nat.le_refl _)).1 hp)
        go_wp2_with fail;go_ret;exact ⟨rfl,hBwj.trans ((hb5.trans (hb6.mono hb5.size)).mono hBwj.size)⟩
       ·obtain rfl:E=8:=by rw [<- hE.out];exact hV.out.neg hs.out (by rw [hl.out];exact fun h=>hp ((Zgs hrow.out (Nat.le_refl _)).2 h))
        go_wp2_with fail;go_ret;exact ⟨rfl,hBwj.trans ((hb5.trans (hb6.mono hb5.size)).mono hBwj.size)⟩
      | succ t =>
       obtain rfl:t=n - (j+1):=by omega
       have hji:j < n:=by omega
       have t5:decide ((j:Int) < (n:Int))=true:=decide_eq_true (by omega)
       have bj:(j:Int) < (n:Int):=by omega
       go_wp2_with fail
       go_loopg [6] j (fun t kv wr=>∃ k:Nat,k+t=j/\kv=.int .i64 k/\Hid (∀ b,b < k->Zg (qM rs) j b=Zg (qM rs) b j)/\Below wj.heap.size wj wr)
       case atStart=>exact ⟨0,by omega,rfl,Za (fun b hb=>by omega),Below.refl _ _⟩
       case round =>
        obtain ⟨wk,rfl⟩:∃ x:World,x=wr:=⟨_,rfl⟩;obtain ⟨k,hkk,rfl,hsk,hBk⟩:=hrel
        cases gk with
        | zero =>
         obtain rfl:j=k:=by omega
         have t6:decide ((j:Int) < (j:Int))=false:=by simp
         have hsy2:Hid (∀ a b,a < j+1->b < a->Zg (qM rs) a b=Zg (qM rs) b a):=Za (fun a b ha hb=>by
          rcases Nat.lt_or_ge a j with h' | h'
          ·exact hsy.out a b h' hb
          ·obtain rfl:a=j:=by omega
           exact hsk.out b hb)
         go_wp2_with fail
         go_roundg (n - (j+1))
         case measure=>omega
         case rel=>exact ⟨j+1,by omega,by go_num,hsy2,hBj.trans (hBk.mono hBj.size)⟩
        | succ t' =>
         obtain rfl:t'=j - (k+1):=by omega
         have hkj:k < j:=by omega
         have t6:decide ((k:Int) < (j:Int))=true:=decide_eq_true (by omega)
         have bk:(k:Int) < (j:Int):=by omega
         have bki:(k:Int) < (n:Int):=by omega
         have hBjk:=hBj.trans (hBk.mono hBj.size);obtain ⟨g,o,A',n',c',rfl,c0,hR⟩:=(hM.out.below hBjk).at_ hji
         have hn':n=n':=by rw [<- hR.len];exact (hrow.out j hji).symm
         subst hn';have hrcap:=hR.cap;unfold maxLen at hrcap;obtain ⟨ga,oa,xn,xA,xk,xc,xm,xB,xj,xd,rfl,⟨r0,r1,r2,r3⟩,hX⟩:=hR.at_ (show k < n by omega);obtain ⟨A2,n2,c2,ck,hR2⟩:=(hM.out.below hBjk).atS (show k < n by omega)
         have hn2:n=n2:=by rw [<- hR2.len];exact (hrow.out k (by omega)).symm
         subst hn2;have hrcap2:=hR2.cap;unfold maxLen at hrcap2;obtain ⟨gb,ob,yn,yA,yk,yc,ym,yB,yj,yd,rfl,⟨s0,s1,s2,s3⟩,hY⟩:=hR2.at_ hji;have eX:((qM rs)[j]?.getD [])[k]?.getD 0=Zg (qM rs) j k:=rfl;have eY:((qM rs)[k]?.getD [])[j]?.getD 0=Zg (qM rs) k j:=rfl;rw [eX] at hX;rw [eY] at hY;replace hX:=Za hX;replace hY:=Za hY;clear eX eY hR2 hR;go_wp2_with fail;obtain ⟨X0,hX0⟩:∃ X,wk.drew=X:=⟨_,rfl⟩
         have hr1:Below wk.heap.size wk X0:=by rw [<- hX0];exact Zi (Below.refl _ _) 1
         have hSv1:Hid (∀ wx,Below wk.heap.size wk wx->wx.cell? ⟨g,o+j,none⟩=some (.slice (some ⟨ga,oa,none⟩) n c')/\wx.cell? ⟨ga,oa+k * 4,none⟩=some (.bool xn)/\wx.cell? ⟨ga,oa+k * 4+1,none⟩=some (.slice xA xk xc)/\wx.cell? ⟨ga,oa+k * 4+2,none⟩=some (.bool xm)/\wx.cell? ⟨ga,oa+k * 4+3,none⟩=some (.slice xB xj xd)/\wx.cell? ⟨g,o+k,none⟩=some (.slice (some ⟨gb,ob,none⟩) n c2)/\wx.cell? ⟨gb,ob+j * 4,none⟩=some (.bool yn)/\wx.cell? ⟨gb,ob+j * 4+1,none⟩=some (.slice yA yk yc)/\wx.cell? ⟨gb,ob+j * 4+2,none⟩=some (.bool ym)/\wx.cell? ⟨gb,ob+j * 4+3,none⟩=some (.slice yB yj yd)):=Za (fun wx hbx=>⟨Zb hbx c0,Zb hbx r0,Zb hbx r1,Zb hbx r2,Zb hbx r3,Zb hbx ck,Zb hbx s0,Zb hbx s1,Zb hbx s2,Zb hbx s3⟩);refine wp_heldS [] hmx hSv1 (by rw [hX0];exact hr1) (fun hxs=>?_);rw [hX0];refine Zu5 14 [0,1,2,3,4,5,6,7,8,9,10,11,12,13] rfl (by kernel_rfl) (hSv1.out _ hr1) ?_
         iterate 14 (refine tk1 (v:=?_) rfl (Or.inl ⟨by kernel_rfl,?_⟩) ?_;rotate_left;(· intro W2 hSw;(try dsimp only at hSw);go_simp;try with_reducible rfl);try simp only [Act.put,putL_a,putL_z,putL_s,putG_a,putG_s,putG_z])
         refine tk0 ?_;obtain ⟨z,hz⟩:∃ z,decide (Zg (qM rs) j k=Zg (qM rs) k j)=z:=⟨_,rfl⟩;refine Ze (i:=14) rfl (by kernel_rfl) (fun K hK=>?_);go_simp;refine (Zp7 xn xm yn ym xA xB yA yB xk xc xj xd yk yc yj yd _ _ X0 (hX.out.below hr1) (hY.out.below hr1) z hz).mono ?_;rintro e w5 ⟨rfl,hb5⟩;have hr5:=hr1.trans (hb5.mono hr1.size);refine hK.out _ _ (fun _=>hSv1.out _ hr5) ?_;clear hK K
         try simp only [Act.put,putL_a,putL_z,putL_s]
         refine Zu4 1 [15] rfl (by kernel_rfl) (hSv1.out _ hr5) ?_
         (refine tk1 (v:=?_) rfl (Or.inl ⟨by kernel_rfl,?_⟩) ?_;rotate_left;(· intro W2 _;go_simp;try with_reducible rfl);try simp only [Act.put,putL_a,putL_z,putL_s,putG_a,putG_s,putG_z])
         refine tk0 ?_;refine Zj (by kernel_rfl) ?_ _;refine OnlyNormal.normal ?_;have hB5:Hid (Below wj.heap.size wj w5):=Za (hBk.trans (hr5.mono hBk.size));clear hSv1 hxs hr1 hr5 hb5 hX0 r0 r1 r2 r3 s0 s1 s2 s3 ck c0 hX hY
         cases z
         ·obtain rfl:E=8:=by
            rw [<- hE.out];refine hV.out.asym ?_
            cases hb:Zfv (qM rs) with
            | false=>rfl
            | true=>exact absurd (symB_iff.1 hb j k (by unfold qM;rw [List.length_map,hl.out];exact hji) (by unfold qM;rw [List.length_map,hl.out];omega)) (of_decide_eq_false hz)
          replace hz:=Za hz;go_wp2_with fail;go_ret;exact ⟨rfl,hBwj.trans (hB5.out.mono hBwj.size)⟩
         ·have hsk2:Hid (∀ b,b < k+1->Zg (qM rs) j b=Zg (qM rs) b j):=Za (fun b hb=>by
            rcases Nat.lt_or_ge b k with h' | h'
            ·exact hsk.out b h'
            ·obtain rfl:b=k:=by omega
             exact of_decide_eq_true hz)
          replace hz:=Za hz;go_wp2_with fail
          go_roundg (j - (k+1))
          case measure=>omega
          case rel=>exact ⟨k+1,by omega,by go_num,hsk2,hB5.out⟩
def shG (B0 q n L:Nat) (i:Nat) (v:Value) (w:World):Prop:=
 if i=4 then OwnL 147 w B0 v (List.replicate q 0)/\∃ g,v=.slice (some ⟨g,0,none⟩) q q
 else ∃ A c o,v=.slice A (n+1) c/\Lim w A (n+1) c o/\val o=L
theorem Zrm {B0 q n L i:Nat} {v:Value} {w w':World} (hb:Below w.heap.size w w') (h:shG B0 q n L i v w):shG B0 q n L i v w':=by
 unfold shG at h ⊢
 split at h
 ·rename_i h1;rw [if_pos h1];exact ⟨h.1.kept hb,h.2⟩
 ·rename_i h1;rw [if_neg h1]
  obtain ⟨A,c,o,e,h2,h3⟩:=h;exact ⟨A,c,o,e,h2.below hb,h3⟩
theorem sg_mulS {z:Int} {P:Nat} (h:0 < P):sg (decide (z < 0)) (P * z.natAbs)=(P:Int) * z:=by
 unfold sg
 by_cases h0:z < 0
 ·simp only [h0,decide_true,if_true]
  rw [Int.natCast_mul,show ((z.natAbs:Nat):Int)=-z by omega,Int.mul_neg,Int.neg_neg]
 ·simp only [h0,decide_false,if_false,Bool.false_eq_true]
  rw [Int.natCast_mul,show ((z.natAbs:Nat):Int)=z by omega]
theorem Zr6 (neg:Bool) (A:Option Addr) (n c k:Nat) (z:Int) (P:Nat) (w:World) (hz:Wd w neg A n c z) (hk:k <= 131072) (hP:P=2 ^ k) (hsm:((P:Int) * z).natAbs < pw 4096) :
    Calls Tryz.prog 135 #[.agg #[.bool neg,.slice A n c],.int .i64 k] w (NumE w ((P:Int) * z)):=by
 obtain ⟨W0,hW0,hB0,⟨q0,q1⟩,s0⟩:=Zc7 w 27 #[.bool neg,.slice A n c] 27 #[.bool false,.slice none 0 0]
 have hmx:Tryz.prog.follows .mixedOrders=true:=by kernel_rfl
 obtain ⟨i0,hi,hz0,hz1,hz2⟩:=info_parts Zco;obtain ⟨q,hq⟩:∃ q,k / 32=q:=⟨_,rfl⟩;obtain ⟨s,hsk⟩:∃ s,k % 32=s:=⟨_,rfl⟩
 have hs:s < 32:=by omega
 have hq9:q <= 4096:=by omega
 have hPP:Hid (P=pw q * 2 ^ s):=Za (by
  have e:k=32 * q+s:=by omega
  rw [hP,e,Nat.pow_add,Zh5])
 have hP0:Hid (0 < P):=Za (by rw [hP];exact Nat.two_pow_pos k);have hneg:=Za hz.1;have hn9:=hz.2.1;have hgood:Hid (okW neg (digits z.natAbs)=true):=hz.ok;have hL:=Za (fun X (hb:Below w.heap.size w X)=>hz.lim.below hb)
 have q3:((k:Int) / 32)=(q:Int):=by omega
 have q4:((k:Int) % 32)=(s:Int):=by omega
 have q5:(k:Int).tmod 32=(s:Int):=by rw [Int.tmod_eq_emod_of_nonneg (by omega)];exact q4
 have q6:IntKind.i64.wrap (q:Int)=(q:Int):=IntWalk.i64_in _ (by omega);have q7:IntKind.u64.wrap (s:Int)=(s:Int):=IntWalk.u64_in _ (by omega);have t1:decide ((k:Int) < -131072)=false:=decide_eq_false (by omega);have t2:decide ((131072:Int) < (k:Int))=false:=decide_eq_false (by omega);have t2':decide (131072 < k)=false:=decide_eq_false (by omega);have t3:decide ((0:Int) <= (k:Int))=true:=decide_eq_true (by omega);have hncap:=hz.lim.2.1;have hcap:=hz.lim.2.2.1;unfold maxLen at hcap;obtain ⟨a0,a1,-⟩:=q0.two;replace hsm:=Za hsm;replace hP:=Za hP;replace hW0:=Za hW0;replace hB0:=Za hB0;have hqq:=Za (And.intro q0 q1);clear q0 q1 hz;replace hq:=Za hq;replace hsk:=Za hsk;replace hk:=Za hk;go_enter Tryz.func135,Tryz.ntmps135;have hW0':=hW0.out;go_wp2_with fail;clear hW0 hW0';refine (Za6 (hL.out W0 hB0.out) hgood.out).mono ?_;rintro e w1 ⟨rfl,hb1⟩;have hB1:=hB0.out.trans (hb1.mono hB0.out.size);obtain ⟨q0,q1⟩:=hqq.out;replace q0:=Zc hb1 q0;replace q1:=Zc hb1 q1;clear hb1 hqq hB0 a0 a1;obtain ⟨a0,a1,-⟩:=q0.two;obtain ⟨x0,x1,f0,f1⟩:=q1.two;have hqq:=Za (And.intro q0 q1);clear q0 q1;have hs1:=hB1.size;replace hB1:=Za hB1;go_wp2_with fail;have hr1:Below w1.heap.size w1 w1.drew:=Zi (Below.refl _ _) 1;have hSv:Hid (∀ wx,Below w1.heap.size w1 wx->wx.cell? ⟨w.heap.size,0,none⟩=some (.bool neg)/\wx.cell? ⟨w.heap.size,1,none⟩=some (.slice A n c)):=Za (fun wx hbx=>⟨Zb hbx a0,Zb hbx a1⟩);refine wp_heldS [] hmx hSv hr1 (fun _=>?_)
 refine Zu5 9 [0,1,2,3,5,6,7,8,9] rfl (by kernel_rfl) (hSv.out _ hr1) ?_
 iterate 9 (refine tk1 (v:=?_) rfl (Or.inl ⟨by kernel_rfl,?_⟩) ?_;rotate_left;(· intro W2 hSw;(try dsimp only at hSw);go_simp;try with_reducible rfl);try simp only [Act.put,putL_a,putL_z,putL_s,putG_a,putG_s,putG_z])
 refine tk0 ?_;refine Zbi [(4,28),(10,34)] (fun _=>[]) [(4,28),(10,34)] (shG w1.heap.size q n (2 ^ s * z.natAbs)) 6 (by kernel_rfl) (fun _ _ _ _ _ hb h=>Zrm hb h) (fun wx h=>hSv.out _ (hr1.trans (h.mono hr1.size))) ?hop1 ?hfin1
 case hop1 =>
  intro p hp;simp only [List.mem_cons,List.not_mem_nil,or_false] at hp;simp only [List.map_cons,List.map_nil,Zam,Act.put,putL_a,putL_z,putL_s]
  rcases hp with rfl | rfl
  ·intro ν wx hb hP
   have hbx:=hr1.trans (hb.mono hr1.size);have hmk:=Zeo (P:=Tryz.prog) 25 147 Tryz.underlying25 hi hz0 hz1 hz2 (q:Int) q rfl (by omega) wx
   have hO:OwnL 147 (wx.alloc (.cells (Zt (List.replicate q 0)) 147)) w1.heap.size (.slice (some ⟨wx.heap.size,0,none⟩) q q) (List.replicate q 0):=by
    refine ⟨⟨by simp,.inr ⟨wx.heap.size,q,_,by simp,hbx.size,heap_alloc_new _ _,by simp,by unfold maxLen;omega,by simp [Zt],?_⟩⟩,Zjj q⟩
    simp [Zt,List.take_replicate,limb]
   refine Zn (i:=4) rfl (fun K hK=>?_);go_simp;exact hK.out _ _ ⟨_,rfl,(by unfold shG;rw [if_pos rfl];exact ⟨hO,_,rfl⟩),(Below.refl _ _).alloc (Nat.le_refl _) _,trivial⟩
  ·intro ν wx hb hP
   have hbx:=hr1.trans (hb.mono hr1.size);refine Zn (i:=10) rfl (fun K hK=>?_);go_simp;refine (Zin A n c s _ wx (hL.out wx (hB1.out.trans (hbx.mono hB1.out.size))) hs (by omega)).mono ?_;rintro e w5 ⟨v,o,rfl,hO,hlen,hval,hb5⟩;obtain ⟨A5,c5,rfl,h5⟩:=hO.lim;rw [hlen] at h5 ⊢;rw [Zh] at hval;exact hK.out _ _ ⟨_,rfl,(by unfold shG;rw [if_neg (by decide)];exact ⟨_,_,_,rfl,h5,hval⟩),hb5,trivial⟩
 case hfin1 =>
  intro ν wx hb hP;have h0:=hP (4,28) (by simp);have h1:=hP (10,34) (by simp);simp only [shG,if_true] at h0;unfold shG at h1;rw [if_neg (by decide)] at h1;obtain ⟨hO,g,h0⟩:=h0;obtain ⟨A5,c5,o,h1,h5,hval⟩:=h1;simp only [List.map_cons,List.map_nil,Zam,Act.put,putL_a,putL_z,putL_s];rw [h0] at hO;rw [h0,h1];clear h0 h1 hP ν;have hbx:=hr1.trans (hb.mono hr1.size)
  have hcs:n+1 <= 4097:=by omega
  refine Ze (i:=11) rfl (by kernel_rfl) (fun K hK=>?_);rw [if_pos (by rfl)];refine Zgu _ (.tmp 28) (.tmp 34) 25 rfl w1.heap.size 147 i0 _ 1 4 Tryz.underlying25 hi hz0 hz1 hz2 rfl (by omega) _ q ((List.replicate q 0).map limb) rfl (by have:=hO.1;rw [List.length_replicate] at this;exact this) _ A5 (n+1) c5 _ rfl h5.reads (Zc2 _) (by unfold maxLen;omega) (by omega) hbx.size ?_;intro v7 w7 hr7 hg7 _;have hO7:OwnL 147 w7 w1.heap.size v7 (List.replicate q 0 ++ o):=OwnL.append (by simp) h5.len.symm hr7 (Zjj q) h5.lt;have hj7:Below w1.heap.size w1 w7:=hbx.grown hg7 hbx.size (fun x hx=>hO.row_ge x hx);obtain ⟨A7,c7,e7,h7⟩:=hO7.lim;obtain ⟨N7,hN7⟩:∃ N,(List.replicate q 0 ++ o).length=N:=⟨_,rfl⟩
  have hl7:N7 <= 1000000000:=by rw [<- hN7,List.length_append,List.length_replicate,h5.len];omega
  rw [hN7] at e7 h7;subst e7;replace hN7:=Za hN7;refine hK.out _ _ (fun _=>hSv.out _ hj7) ?_;clear hK K hr7 hg7 hO7
  try simp only [Act.put,putL_a,putL_z,putL_s]
  refine Ze (i:=12) rfl (by kernel_rfl) (fun K hK=>?_);go_simp;refine (Za5 neg A7 _ c7 _ w7 h7 hl7).mono ?_;rintro e w8 ⟨hb8,n8,A8,k8,c8,code,rfl,hR⟩
  have hv:sg neg (val (List.replicate q 0 ++ o))=(P:Int) * z:=by
   rw [Zfk,Zrl,List.length_replicate,hval,Nat.zero_add,<- Nat.mul_assoc,<- hPP.out,hneg.out];exact sg_mulS hP0.out
  rw [hv] at hR;obtain rfl:=hR.code0 hsm.out;have hW:=hR.small hsm.out;have hj8:=hj7.trans (hb8.mono hj7.size);refine hK.out _ _ (fun _=>hSv.out _ hj8) ?_;clear hK K hR hv
  try simp only [Act.put,putL_a,putL_z,putL_s]
  refine Zu5 2 [13,14] rfl (by kernel_rfl) (hSv.out _ hj8) ?_
  iterate 2 (refine tk1 (v:=?_) rfl (Or.inl ⟨by kernel_rfl,?_⟩) ?_;rotate_left;(· intro W2 hSw;(try dsimp only at hSw);go_simp;try with_reducible rfl);try simp only [Act.put,putL_a,putL_z,putL_s,putG_a,putG_s,putG_z])
  refine tk0 ?_;obtain ⟨q0,q1⟩:=hqq.out;replace q1:=Zc hj8 q1;obtain ⟨Wb,hWb,hBb,qb,kW2,kB2,sb⟩:=Zaa n8 A8 k8 c8 (hB1.out.trans (hj8.mono hB1.out.size)) (by omega) q1;replace q0:=kB2 _ _ _ (by omega) (Zc hj8 q0);obtain ⟨d0,d1,-⟩:=q0.two;obtain ⟨v0,v1,u0,u1⟩:=q1.two;refine Ze (i:=15) rfl (by kernel_rfl) (fun K hK=>?_);go_simp;(try rw [hWb]);refine hK.out _ _ (fun _=>⟨d0,d1⟩) ?_;clear hK K
  try simp only [Act.put,putL_a,putL_z,putL_s]
  refine Zu4 1 [16] rfl (by kernel_rfl) ⟨d0,d1⟩ ?_
  (refine tk1 (v:=?_) rfl (Or.inl ⟨by kernel_rfl,?_⟩) ?_;rotate_left;(· intro W2 _;go_simp;try with_reducible rfl);try simp only [Act.put,putL_a,putL_z,putL_s,putG_a,putG_s,putG_z])
  refine tk0 ?_;refine Zj (by kernel_rfl) ?_ _;refine OnlyNormal.normal ?_;have HZ:=Za (kW2 _ _ _ _ _ hW);obtain ⟨y0,y1,-⟩:=qb.two;replace hBb:=Za hBb;clear v0 v1 u0 u1 hWb d0 d1 hW hb8 hj8;go_wp2_with fail;refine bodyPost_ret (v:=.tuple #[.agg #[.bool n8,.slice A8 k8 c8],.int .i64 0]) (by simp [results,Tryz.results135,go_sem,y0,y1]) rfl ?_;exact ⟨hBb.out,_,_,_,_,rfl,HZ.out⟩
theorem Zsp {l:List Nat} {d:Nat} (h:2 <= l.length):Zbw l [d]=1:=by
 unfold Zbw
 have h1:¬ (l.length < [d].length):=by rw [List.length_singleton];omega
 have h2:[d].length < l.length:=by rw [List.length_singleton];omega
 first
 | (rw [if_neg h1,if_pos h2])
 | (rw [if_pos h2])
 | simp_all
theorem Zuh (A:Option Addr) (n c b:Nat) (l:List Nat) (g:Nat) (w:World) (ha:Lim w A n c l) (hb:Lim w (some ⟨g,0,none⟩) 1 1 [b]) (hn:n <= 100000) (h2:2 <= n) (hb0:0 < b) (hb32:b < 4294967296) :
    Calls Tryz.prog 136 #[.slice A n c,.slice (some ⟨g,0,none⟩) 1 1] w (Zk4 w (val l) b):=by
 have hnc:=ha.2.1;have hcm:=ha.2.2.1;unfold maxLen at hcm;have HC:Hid (Zbw l [b]=1):=Za (Zsp (by rw [ha.len];exact h2));obtain ⟨g',o,e',hcell⟩:=hb.at_ (k:=0) (by omega)
 cases e'
 simp at hcell
 go_enter Tryz.func136,Tryz.ntmps136;go_wp2_with fail;refine (Zbg _ _ _ _ _ _ _ _ _ ha hb).mono ?_;rintro e w1 ⟨he1,hb1⟩;rw [HC.out] at he1;subst he1;have hcell1:=Zb hb1 hcell;go_wp2_with fail;refine (Zke _ _ _ b _ _ (ha.below hb1) hb0 hb32 (by omega)).mono ?_;rintro e w2 ⟨A2,n2,c2,A3,n3,c3,rfl,hL2,hL3,hb2⟩;go_wp2_with fail
 go_ret2
 exact ⟨_,_,_,_,_,_,rfl,hL2,hL3,hb1.trans (hb2.mono hb1.size)⟩
theorem Zs4 {t j:Nat}:t / 2 ^ j / 2=t / 2 ^ (j+1):=by
 rw [Nat.div_div_eq_div_mul,<- Nat.pow_succ]
theorem Zpt {t j:Nat} (h:t / 2 ^ j=0):t < 2 ^ j:=by
 rcases Nat.div_eq_zero_iff.1 h with h | h
 ·exact absurd h (Nat.ne_of_gt (Nat.two_pow_pos j))
 ·exact h
theorem Zpn {t j:Nat} (ht:t < 4294967296) (h:t / 2 ^ j ≠ 0):j < 32:=by
 rcases Nat.lt_or_ge j 32 with h1 | h1
 ·exact h1
 ·have h2:2 ^ 32 <= 2 ^ j:=Nat.pow_le_pow_right (by decide) h1
  exact absurd (Nat.div_eq_of_lt (by omega)) h
theorem Zuy (neg:Bool) (A:Option Addr) (n c:Nat) (z:Int) (w:World) (hz:Wd w neg A n c z) :
    Calls Tryz.prog 134 #[.agg #[.bool neg,.slice A n c]] w fun e w'=>∃ b:Nat,e=.returned (.tuple #[.int .i64 b,.int .i64 0])/\BitsN z.natAbs b/\b <= 32 * n/\Below w.heap.size w w':=by
 have hL:=hz.lim;have hn:=hz.2.1;have hlen:=hL.len;have hcm:=hL.2.2.1;unfold maxLen at hcm
 have hB0:∀ X:Obj,Below w.heap.size w (w.alloc X):=fun X=>(Below.refl w.heap.size w).alloc (Nat.le_refl _) _
 have hB0:=Za hB0;have hgood:Hid (okW neg (digits z.natAbs)=true):=hz.ok;obtain ⟨u,hu⟩:∃ u,z.natAbs=u:=⟨_,rfl⟩;rw [hu] at hL hlen hgood ⊢;replace hu:=Za hu;replace hlen:=Za hlen;have hLx:=Za (fun X=>hL.alloc X);clear hz;go_enter Tryz.func134,Tryz.ntmps134;go_wp2_with fail;refine (Za6 (hLx.out _) hgood.out).mono ?_;rintro e w1 ⟨rfl,hb1⟩;obtain ⟨hc1,hf1⟩:=Zca hb1
 have hz1:w.heap.size < w1.heap.size:=by have:=hb1.size;simp at this;omega
 have hB1:Below w.heap.size w w1:=(hB0.out _).trans (hb1.mono (by simp))
 have g0:w1.cell? ⟨w.heap.size,0,none⟩=some (.bool neg):=by simp [hc1,go_sem]
 have g1:w1.cell? ⟨w.heap.size,1,none⟩=some (.slice A n c):=by simp [hc1,go_sem]
 have hL1:=Za (hL.below hB1);clear hc1 hf1 hB0 hL hb1 hLx;replace hB1:=Za hB1
 cases n with
 | zero =>
  have t1:decide ((((0:Nat):Int))=0)=true:=by decide
  go_wp2_with fail;refine (Za6 hL1.out hgood.out).mono ?_;rintro e w2 ⟨rfl,hb2⟩;have hB2:=hB1.out.trans (hb2.mono hB1.out.size);go_wp2_with fail;go_returns
  have hu0:u=0:=by
   rcases Nat.eq_zero_or_pos u with h | h
   ·exact h
   ·have:=length_digits_pos.2 h
    have:=hlen.out;omega
  exact ⟨0,rfl,⟨by rw [hu0];decide,⟨fun _=>hu0,fun _=>rfl⟩⟩,by omega,hB2⟩
 | succ k =>
  have t1:(((k:Int)+1) == 0)=false:=by simp;omega
  have t1':decide ((k:Int)+1=0)=false:=decide_eq_false (by omega);obtain ⟨b,of,rfl,hcell⟩:=hL1.out.at_ (show k < k+1 by omega);have hx:=hL1.out.lt.get k;have htop:=Zdk (v:=u) (by rw [hlen.out];omega);rw [hlen.out,Nat.add_sub_cancel] at htop;obtain ⟨t,ht⟩:∃ t,(digits u)[k]?.getD 0=t:=⟨_,rfl⟩;rw [ht] at hcell hx htop;have hw1:IntKind.i64.wrap (k:Int)=(k:Int):=IntWalk.i64_in _ (by omega);have hw2:IntKind.i64.wrap (32 * (k:Int))=32 * (k:Int):=IntWalk.i64_in _ (by omega);replace ht:=Za ht;replace htop:=Za htop;clear hL1 hgood;go_wp2_with fail
  go_loopg [4,5] t (fun m nv xv wr=>wr=w1/\∃ j x:Nat,Hid (x=t / 2 ^ j)/\x <= m/\j <= 32/\nv=.int .i64 ((32 * k+j:Nat):Int)/\xv=.int .u32 (x:Int))
  case atStart=>exact ⟨rfl,0,t,Za (by simp),Nat.le_refl _,by omega,by go_num,rfl⟩
  case round =>
   obtain ⟨rfl,j,x,hxe,hxm,hj,rfl,rfl⟩:=hrel
   by_cases hx0:x=0
   ·subst hx0
    have t5:decide ((0:Int) < ((0:Nat):Int))=false:=by decide
    have hfin:=Za (Zt4 hlen.out ht.out (Zpt hxe.out.symm) (by have:=htop.out;omega));go_wp2_with fail;go_returns;exact ⟨32 * k+j,by first | rfl | (push_cast;rfl),hfin.out,by omega,hB1.out⟩
   ·have t5:decide ((0:Int) < (x:Int))=true:=decide_eq_true (by omega)
    have t5':decide (0 < x)=true:=decide_eq_true (by omega);have hj32:j < 32:=Zpn hx (by rw [<- hxe.out];exact hx0)
    have hx2:x < 4294967296:=by have:=Nat.div_le_self t (2 ^ j);rw [hxe.out];omega
    have hxh:Hid (x / 2=t / 2 ^ (j+1)):=Za (by rw [hxe.out,Zs4]);clear hxe;go_wp2_with fail
    go_roundg (x / 2)
    case measure=>omega
    case rel=>exact ⟨rfl,j+1,x / 2,hxh,Nat.le_refl _,by omega,by go_num,by go_num⟩
end Go.Proofs.YtaioanjcjijckaaGreat
