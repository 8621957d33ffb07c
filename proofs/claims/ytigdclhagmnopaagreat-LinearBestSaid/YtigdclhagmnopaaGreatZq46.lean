/- The body of the law LinearDet. What LinearBest meets, in -/
import Derived.Test.YtigdclhagmnopaaGreatZq45
set_option linter.unusedSimpArgs false
set_option linter.unusedVariables false
namespace Go.Proofs.YtigdclhagmnopaaGreat
open Go.RowKit
attribute [local go_sem] Zh
theorem det_num {Q:List (List Rat)} {n k:Nat} (h:SmE k Q) (hl:Q.length=n) (hn:n <= 900) (hrow:∀ i,i < n->(Q[i]?.getD []).length=n) (h1:(k * n+k+1) * n < 198) (h2:k * n+k < 900) (h3:k * n * n < 4096) :
    Znl Q n/\Zhy Q=Z1 n (Zn Q)/\(Z1 n (Zn Q)).num.natAbs <= pw ((k * n+k+1) * n)/\(Z1 n (Zn Q)).den <= pw (k * n * n):=by
 obtain ⟨o1,-,-⟩:=Znw (B:=pw (k * n+k)) (S:=pw (k * n)) (Zbt _) (Zbt _) Q hl hrow (fun i hi=>h.denAt (hrow i hi)) (fun i j hi=>h.whole (hrow i hi) j) (Nat.le_refl n);obtain ⟨d1,d2,d3⟩:=Zpo (B:=pw (k * n+k)) (S:=pw (k * n)) (Zbt _) (Zbt _) Q hl hrow (fun i hi=>h.denAt (hrow i hi)) (fun i j hi=>h.whole (hrow i hi) j);have hb:=Zgb (b:=k * n+k) n hn;have hbz:=h.byZ hrow n (Nat.le_refl n);have hz:Za1 (pw (k * n+k)) n < pw 200:=Nat.lt_of_le_of_lt hb (Zb0 (by omega));have hp:=Zfz Q n;refine ⟨⟨Zfs hz _ _ _ _ _ o1,⟨fun i t hi ht=>?_,fun i j=>?_⟩,fun t ht=>?_,Nat.lt_of_le_of_lt (Nat.le_trans d3 hb) (Zb0 (by omega)),d1⟩,d2,?_⟩
 ·refine Nat.lt_of_le_of_lt (h.denTo i t) (Zb0 ?_)
  have:k * t <= k * n:=Nat.mul_le_mul (Nat.le_refl _) ht;omega
 ·exact Nat.lt_of_le_of_lt (h i j).1 (Zb0 (by omega))
 ·refine Nat.lt_of_le_of_lt (h.byZ hrow t ht) (Zb0 ?_)
  have:k * n * t <= k * n * n:=Nat.mul_le_mul (Nat.le_refl _) ht;omega
 ·have hbr:((byZ Q n:Nat):Rat) ≠ 0:=by
    intro h0
    have:byZ Q n=0:=by exact_mod_cast h0
    omega
  have e1:((byZ Q n:Nat):Rat) * Z1 n (Zn Q)=(Zed Q:Rat):=by
   rw [<- d2,<- d1,Rat.divInt_eq_div];have:(((byZ Q n:Nat):Int):Rat)=((byZ Q n:Nat):Rat):=Rat.intCast_natCast _;rw [this]
   grind
  have h5:=Ze4 (p:=Z1 n (Zn Q)) ⟨_,e1,Nat.le_trans d3 hb⟩ (⟨((byZ Q n:Nat):Int),(Rat.intCast_natCast _).symm,by simpa using hbz⟩:BndQ (pw (k * n * n)) ((byZ Q n:Nat):Rat)) hbr;exact h5
theorem Zux {rs:List RI} {rr ws:List Int} (hE:Zb2 rs rr ws=0):Zb2 rs (List.replicate rs.length 0) ws=0:=by
 have h1:Zdk rs=false:=by
  unfold Zb2 at hE
  by_cases h:Zdk rs=true
  ·rw [if_pos h] at hE;cases hE
  ·simpa using h
 have h2:Zii rs rr ws=true:=by
  unfold Zb2 at hE;rw [if_neg (by simp [h1])] at hE
  by_cases h:Zii rs rr ws=true
  ·exact h
  ·rw [if_neg h] at hE;cases hE
 refine Zo0 h1 ?_
 have h3:Zda (-1099511627776) (List.replicate rs.length 0)=false:=by
  unfold Zda;rw [List.any_eq_false];intro z hz;rw [List.eq_of_mem_replicate hz]
  decide
 unfold Zii at h2 ⊢;simp only [Bool.and_eq_true] at h2 ⊢;obtain ⟨a1,a2,a3,a4,a5,a6⟩:=h2;exact ⟨a1,a2,by rw [decide_eq_true_eq];simp,a4,by rw [h3];rfl,a6⟩
section
variable {rs:List RI} {rr ws:List Int} {x:Nat->Rat} {n m:Nat}
def Zi3 (rs:List RI) (rr ws:List Int) (x:Nat->Rat) (m k t:Nat):Rat:=sumQ t (fun r=>Zaz rs rr x m r * (Zv rs k r:Rat) * (Z5 ws r:Rat))
theorem Zrh (k t:Nat):Zi3 rs rr ws x m k (t+1)=Zi3 rs rr ws x m k t+Zaz rs rr x m t * (Zv rs k t:Rat) * (Z5 ws t:Rat):=rfl
theorem Zuw (hN:Zey rs rr ws x n m) {k:Nat} (hk:k < m):Zi3 rs rr ws x m k n=0:=by
 rw [<- Zlh hN hk]
 exact Zm fun r _=>by grind
structure BestP (rs:List RI) (rr ws:List Int) (x:Nat->Rat) (n m:Nat):Prop where
 ra:∀ r k,r < n->k < m->Sm (Zaz rs rr x m r * (Zv rs k r:Rat))
 raw:∀ r k,r < n->k < m->Sm (Zaz rs rr x m r * (Zv rs k r:Rat) * (Z5 ws r:Rat))
 t:∀ k t,k < m->t <= n->Sm (Zi3 rs rr ws x m k t)
theorem Zxb {e D Z:Nat} (hn:n <= 200) (hm:m <= 200) (hD:0 < D) (hDe:D <= pw e) (hZe:Z <= pw e) (he:2 * e+20 < 1000) (hx:∀ k,k < m->CD D Z (x k))
    (ha:∀ r k,r < n->k < m->B40 (Zv rs k r)) (hb:∀ r,r < n->B40 (Z5 rr r)) (hw:∀ r,r < n->B40 (Z5 ws r)):BestP rs rr ws x n m:=by
 have w40:∀ z:Int,B40 z->CD 1 (pw 2) (z:Rat):=fun z hz=>(CD.whole z).mono (Nat.le_trans hz Zwc)
 have cf:∀ r k,r < n->k < m->CD D (pw (2+e)) ((Zv rs k r:Rat) * x k):=fun r k hr hk=>by
  have:=(w40 _ (ha r k hr hk)).mul (hx k hk);rw [Nat.one_mul] at this;exact this.mono (Zcb (Nat.le_refl _) hZe)
 have cres:∀ r t,r < n->t <= m->CD D (pw (e+4)) (Zaz rs rr x t r):=fun r t hr ht=>by
  unfold Zaz;have h1:=(w40 _ (hb r hr)).liftL hD rfl;have h2:=CD.sumQ (n:=t) (f:=fun k=>(Zv rs k r:Rat) * x k) (fun k hk=>cf r k hr (by omega));refine (h1.sub h2).mono ?_;have h3:pw 2 * D <= pw (e+3):=Nat.le_trans (Zcb (Nat.le_refl _) hDe) (Zbk (by omega));have h4:t * pw (2+e) <= pw (e+3):=Nat.le_trans (Zcb (Zkp (show t <= 4294967296 by omega)) (Nat.le_refl _)) (Zbk (by omega));exact Nat.le_trans (Nat.add_le_add h3 h4) (Zig (e+3))
 have cra:∀ r k,r < n->k < m->CD D (pw (e+4+2)) (Zaz rs rr x m r * (Zv rs k r:Rat)):=fun r k hr hk=>by
  have:=(cres r m hr (Nat.le_refl _)).mul (w40 _ (ha r k hr hk));rw [Nat.mul_one] at this;exact this.mono (Zcb (Nat.le_refl _) (Nat.le_refl _))
 have crw:∀ r k,r < n->k < m->CD D (pw (e+4+2+2)) (Zaz rs rr x m r * (Zv rs k r:Rat) * (Z5 ws r:Rat)):=fun r k hr hk=>by
  have:=(cra r k hr hk).mul (w40 _ (hw r hr));rw [Nat.mul_one] at this;exact this.mono (Zcb (Nat.le_refl _) (Nat.le_refl _))
 have cs:∀ k t,k < m->t <= n->CD D (pw (1+(e+4+2+2))) (Zi3 rs rr ws x m k t):=fun k t hk ht =>
  (CD.sumQ (n:=t) (f:=fun r=>Zaz rs rr x m r * (Zv rs k r:Rat) * (Z5 ws r:Rat)) (fun r hr=>crw r k (by omega) hk)).mono (Zcb (Zkp (by omega)) (Nat.le_refl _))
 exact ⟨fun r k hr hk=>(cra r k hr hk).sm hD (Nat.le_refl _) hDe (by omega) (by omega),fun r k hr hk=>(crw r k hr hk).sm hD (Nat.le_refl _) hDe (by omega) (by omega),fun k t hk ht=>(cs k t hk ht).sm hD (Nat.le_refl _) hDe (by omega) (by omega)⟩
def yT (x:Nat->Rat) (ch:List Int) (t k:Nat):Rat:=if k < t then x k+Rat.divInt (ch[k]?.getD 0) 3 else x k
theorem yT_zero (x:Nat->Rat) (ch:List Int):yT x ch 0=x:=by
 funext k
 unfold yT;rw [if_neg (by omega)]
def Zgn (ch:List Int):Nat->Bool
 | 0=>true
 | t+1=>Zgn ch t && decide (ch[t]?.getD 0=0)
theorem Zl9 {ch:List Int}:∀ {t:Nat},Zgn ch t=true->∀ k,k < t->ch[k]?.getD 0=0
 | 0,_,k,hk=>by omega
 | t+1,h,k,hk=>by
  unfold Zgn at h;rw [Bool.and_eq_true,decide_eq_true_eq] at h
  by_cases hkt:k=t
  ·rw [hkt];exact h.2
  ·exact Zl9 h.1 k (by omega)
theorem Zkj {ch:List Int}:∀ {t:Nat},Zgn ch t=false->∃ k,k < t/\ch[k]?.getD 0 ≠ 0
 | 0,h=>by cases h
 | t+1,h=>by
  unfold Zgn at h
  by_cases h0:ch[t]?.getD 0=0
  ·rw [decide_eq_true h0,Bool.and_true] at h
   obtain ⟨k,hk,h1⟩:=Zkj h;exact ⟨k,by omega,h1⟩
  ·exact ⟨t,by omega,h0⟩
theorem Zwn {z:Int} (h:z ≠ 0):Rat.divInt z 3 ≠ 0:=by
 intro h0;rw [Rat.divInt_eq_div] at h0
 have h1:((z:Int):Rat)=((0:Int):Rat):=by
  have h3:((3:Int):Rat)=3:=rfl;have h4:((0:Int):Rat)=0:=rfl;rw [h3] at h0;rw [h4]
  grind
 exact h (Rat.intCast_inj.1 h1)
theorem Zo9 (z:Int):CD 3 z.natAbs (Rat.divInt z 3):=⟨z,by rw [Rat.divInt_eq_div];rfl,Nat.le_refl _⟩
theorem yT_cd {e D Z:Nat} {ch:List Int} (hDe:D <= pw e) (hZe:Z <= pw e) (hx:∀ k,k < m->CD D Z (x k)) (hD:0 < D) (hc:∀ k:Nat,(ch[k]?.getD (0:Int)).natAbs <= 128) (t k:Nat) (hk:k < m):CD (D * 3) (pw (e+2)) (yT x ch t k):=by
 have h1:CD (D * 3) (Z * 3) (x k):=(hx k hk).lift (by decide);have h3:Z * 3 <= pw (e+1):=Zcb hZe (Zkp (by decide));unfold yT
 split
 ·have h2:CD (3 * D) ((ch[k]?.getD (0:Int)).natAbs * D) (Rat.divInt (ch[k]?.getD 0) 3):=(Zo9 _).lift hD
  rw [Nat.mul_comm 3 D] at h2;refine (h1.add h2).mono ?_;have h4:(ch[k]?.getD (0:Int)).natAbs * D <= pw (e+1):=Nat.le_trans (Zcb (Zkp (show (ch[k]?.getD (0:Int)).natAbs <= 4294967296 by have:=hc k;omega)) hDe) (Zbk (by omega));exact Nat.le_trans (Nat.add_le_add h3 h4) (Zig (e+1))
 ·exact h1.mono (Nat.le_trans h3 (Zbk (by omega)))
theorem yT_list {ch:List Int} {t:Nat} (ht:t < m):((List.range m).map (yT x ch t)).set t (x t+Rat.divInt (ch[t]?.getD 0) 3)=(List.range m).map (yT x ch (t+1)):=by
 apply List.ext_getElem?
 intro k;rw [List.getElem?_set]
 by_cases hkt:t=k
 ·subst hkt
  rw [if_pos rfl,if_pos (by simpa using ht),List.getElem?_map,List.getElem?_range ht];show some _=some (yT x ch (t+1) t);unfold yT;rw [if_pos (by omega)]
 ·rw [if_neg hkt,List.getElem?_map,List.getElem?_map]
  by_cases hk:k < m
  ·rw [List.getElem?_range hk]
   show some (yT x ch t k)=some (yT x ch (t+1) k);unfold yT
   by_cases h:k < t
   ·rw [if_pos h,if_pos (by omega)]
   ·rw [if_neg h,if_neg (by omega)]
  ·rw [List.getElem?_eq_none (by simpa using hk)];rfl
theorem Zk1 {m:Nat} {f:Nat->Rat} {k:Nat} (hk:k < m):((List.range m).map f)[k]?.getD 0=f k:=by
 rw [List.getElem?_map,List.getElem?_range hk];rfl
theorem Zwr {a b:Rat} (h:a < b):Zh0 a b < 0:=by
 unfold Zh0;rw [if_pos h]
 decide
theorem Zvh {ch:List Int} {t:Nat} (hE:Zb2 rs rr ws=0) (hn:rs.length=n) (hN:Zey rs rr ws x n m) (hd:Z1 m (Za0 rs ws n) ≠ 0) (ht:t <= m) :
    (Zgn ch t=true->Zh0 (Zby rs rr ws x m n) (Zby rs rr ws (yT x ch t) m n)=0)/\(Zgn ch t=false->Zh0 (Zby rs rr ws x m n) (Zby rs rr ws (yT x ch t) m n) < 0):=by
 refine ⟨fun hs=>?_,fun hs=>?_⟩
 ·have:yT x ch t=x:=by
    funext k
    unfold yT
    split
    ·rename_i hk
     rw [Zl9 hs k hk,Rat.zero_divInt]
     grind
    ·rfl
  rw [this,cmpQ_eq0]
 ·obtain ⟨k,hk,h1⟩:=Zkj hs
  refine Zwr (Zuu hE hn hN hd ⟨k,by omega,fun h=>?_⟩);unfold yT at h;rw [if_pos hk] at h;exact Zwn h1 (by grind)
theorem Zjq (hE:Zb2 rs rr ws=0) (hn:rs.length=n) (hm:n0I rs=m) (hm4:m <= 4):(∀ i j,(Zn (Zd9 rs ws n m) i j).num.natAbs <= pw 4/\(Zn (Zd9 rs ws n m) i j).den <= 1)/\(∀ i j,i < m->j < m->Zn (Zd9 rs ws n m) i j=Za0 rs ws n i j):=by
 obtain ⟨b1,b2,b3⟩:=Zhw hE
 have he:∀ i j,i < m->j < m->Zn (Zd9 rs ws n m) i j=Za0 rs ws n i j:=fun i j hi hj=>by
  unfold Zd9;unfold Zn;rw [List.getElem?_map,List.getElem?_range hi,Option.map_some,Option.getD_some,List.getElem?_map,List.getElem?_range hj];rfl
 refine ⟨fun i j=>?_,he⟩
 by_cases hi:i < m
 ·by_cases hj:j < m
  ·rw [he i j hi hj]
   unfold Za0;exact ⟨Zew (by have:=(Zbq hE).1;omega) (fun r hr=>⟨b3 r,b1 r i,b1 r j⟩),Nat.le_refl _⟩
  ·unfold Zn Zd9
   rw [List.getElem?_map,List.getElem?_range hi,Option.map_some,Option.getD_some,List.getElem?_eq_none (by simp;omega)];exact ⟨Nat.zero_le _,Nat.le_refl _⟩
 ·unfold Zn Zd9
  rw [List.getElem?_eq_none (l:=List.map _ _) (by simp;omega)];exact ⟨Nat.zero_le _,Nat.le_refl _⟩
theorem Zp0 (hE:Zb2 rs rr ws=0) (hn:rs.length=n) (hm:n0I rs=m) (hm4:m <= 4):∀ j,j < m->Znl (Zfk (Zd9 rs ws n m) (j+1)) (j+1)/\Zhy (Zfk (Zd9 rs ws n m) (j+1))=Z1 (j+1) (Za0 rs ws n):=fun j hj=>by
 obtain ⟨h1,h2⟩:=Zjq hE hn hm hm4
 have hs:SmE 4 (Zd9 rs ws n m):=fun a b=>⟨(h1 a b).1,Nat.le_trans (h1 a b).2 (Zbt _)⟩
 have hl:(Zd9 rs ws n m).length=m:=Zpl _ _ _ _;have hb:(4 * (j+1)+4+1) * (j+1) <= 21 * 4:=Nat.mul_le_mul (by omega) (by omega);have hb2:4 * (j+1) * (j+1) <= 16 * 4:=Nat.mul_le_mul (by omega) (by omega)
 have hd:=det_num (hs.sub (j+1)) (Zpw (by omega)) (by omega) (fun i hi=>by
  rw [Zlr hi (by omega),List.length_take,Zqy (by omega)];unfold Zo6
  simp;omega) (by omega) (by omega) (by omega)
 refine ⟨hd.1,hd.2.1.trans (Zau fun a b ha hb=>?_)⟩;rw [Zpu,if_pos ⟨ha,hb⟩];exact h2 a b (by omega) (by omega)
theorem nrm_pd (hE:Zb2 rs rr ws=0) (hn:rs.length=n) (hm:n0I rs=m) (hm4:m <= 4):pdB (Zd9 rs ws n m)=decide (Z1 m (Za0 rs ws n) ≠ 0):=by
 have hl:(Zd9 rs ws n m).length=m:=Zpl _ _ _ _
 have hm0:0 < m:=by have:=(Zbq hE).2.2.1;omega
 have hg:=Zp0 hE hn hm hm4;obtain ⟨-,h2⟩:=Zjq hE hn hm hm4
 by_cases hd:Z1 m (Za0 rs ws n)=0
 ·rw [decide_eq_false (by simp [hd])]
  refine Zs6 (j:=m - 1) (by omega) ?_;rw [(hg (m - 1) (by omega)).2,show m - 1+1=m by omega,hd]
  decide
 ·rw [decide_eq_true hd]
  refine Zw3 (fun i hi k hk=>?_) (fun j hj=>?_)
  ·rw [h2 i k (by omega) (by omega),h2 k i (by omega) (by omega)]
   exact Zj6 i k
  ·rw [(hg j (by omega)).2]
   exact Zqb hE hn (by omega) hd (j+1) (by omega)
end
theorem Zuk {rs:List RI} {rr ws:List Int} {x y:Nat->Rat} {n m:Nat} (h:∀ k,k < m->x k=y k):Zby rs rr ws x m n=Zby rs rr ws y m n:=by
 have hr:∀ r,Zaz rs rr x m r=Zaz rs rr y m r:=fun r=>by
  unfold Zaz;rw [Zm (f:=fun k=>(Zv rs k r:Rat) * x k) (g:=fun k=>(Zv rs k r:Rat) * y k) fun k hk=>by rw [h k hk]]
 unfold Zby
 exact Zm fun r _=>by rw [hr r]
theorem Zsm {rs:List RI} {rr ws:List Int} {x y:Nat->Rat} {n m:Nat} (h:∀ k,k < m->x k=y k) (hN:Zey rs rr ws x n m):Zey rs rr ws y n m:=fun i hi=>by
 rw [<- hN i hi]
 exact Zm fun k hk=>by rw [h k hk]
theorem Zob {xs:List Rat} {ch:List Int} {t m:Nat} (hl:xs.length=m) (ht:t <= m):(fun k=>((List.range m).map (yT (fun k=>xs[k]?.getD 0) ch t))[k]?.getD 0)=yT (fun k=>xs[k]?.getD 0) ch t:=by
 funext k
 by_cases hk:k < m
 ·exact Zk1 hk
 ·rw [List.getElem?_eq_none (by simp;omega)]
  unfold yT;rw [if_neg (by omega)];show _=xs[k]?.getD 0;rw [List.getElem?_eq_none (l:=xs) (by omega)]
structure BestX (rs:List RI) (rr ws:List Int) (xs:List Rat) (ch:List Int) (n m:Nat):Prop where
 len:xs.length=m
 sum:SumP rs rr ws (fun k=>xs[k]?.getD 0) n m
 best:BestP rs rr ws (fun k=>xs[k]?.getD 0) n m
 few:∀ k,k < m->(xs[k]?.getD 0).num.natAbs < pw 60/\(xs[k]?.getD 0).den < pw 60
 norm:Zey rs rr ws (fun k=>xs[k]?.getD 0) n m
 y:∀ t,SumP rs rr ws (yT (fun k=>xs[k]?.getD 0) ch t) n m
 cmp:∀ t,t <= m->(Zgn ch t=true->Zh0 (Zby rs rr ws (fun k=>xs[k]?.getD 0) m n) (Zby rs rr ws (yT (fun k=>xs[k]?.getD 0) ch t) m n)=0)/\(Zgn ch t=false->Zh0 (Zby rs rr ws (fun k=>xs[k]?.getD 0) m n) (Zby rs rr ws (yT (fun k=>xs[k]?.getD 0) ch t) m n) < 0)
 third:∀ k:Nat,Sm (Rat.divInt (ch[k]?.getD 0) 3)
theorem Zwl {rs:List RI} {rr ws:List Int} {x:Nat->Rat} {ch:List Int} {n m D:Nat} (hE:Zb2 rs rr ws=0) (hn:rs.length=n) (hm:n0I rs=m) (hm4:m <= 4) (hd:Z1 m (Za0 rs ws n) ≠ 0)
    (hN:Zey rs rr ws x n m) (hD:0 < D) (hD2:D <= pw 20) (hx:∀ k,k < m->CD D (pw 20) (x k)) (hc:∀ k:Nat,(ch[k]?.getD (0:Int)).natAbs <= 128):BestX rs rr ws ((List.range m).map x) ch n m:=by
 obtain ⟨b1,b2,b3⟩:=Zhw hE
 have hn2:n <= 200:=by have:=(Zbq hE).1;omega
 have he:∀ k,k < m->x k=((List.range m).map x)[k]?.getD 0:=fun k hk=>(Zk1 hk).symm
 have hl:((List.range m).map x).length=m:=by simp
 obtain ⟨xs,hxs⟩:∃ xs,(List.range m).map x=xs:=⟨_,rfl⟩;rw [hxs] at he hl ⊢
 have hx':∀ k,k < m->CD D (pw 20) ((fun k=>xs[k]?.getD 0) k):=fun k hk=>by
  show CD D (pw 20) (xs[k]?.getD 0);rw [<- he k hk];exact hx k hk
 have hN':Zey rs rr ws (fun k=>xs[k]?.getD 0) n m:=Zsm he hN;refine ⟨hl,(Zjy hn2 (by omega) hD hD2 (Nat.le_refl _) (by decide) hx' (fun r k _ _=>b1 r k) (fun r _=>b2 r) (fun r _=>b3 r)).toSum,Zxb hn2 (by omega) hD hD2 (Nat.le_refl _) (by decide) hx' (fun r k _ _=>b1 r k) (fun r _=>b2 r) (fun r _=>b3 r),fun k hk=>?_,hN',fun t=>?_,fun t ht=>Zvh hE hn hN' hd ht,fun k=>?_⟩
 ·obtain ⟨h1,h2⟩:=(hx' k hk).small hD
  exact ⟨Nat.lt_of_le_of_lt h1 (Zb0 (by decide)),Nat.lt_of_le_of_lt (Nat.le_trans h2 hD2) (Zb0 (by decide))⟩
 ·exact (Zjy (e:=22) hn2 (by omega) (Nat.mul_pos hD (by decide)) (Nat.le_trans (Zcb hD2 (Zkp (show 3 <= 4294967296 by decide))) (Zbk (by decide))) (Nat.le_refl _) (by decide) (fun k hk=>yT_cd hD2 (Nat.le_refl _) hx' hD hc t k hk) (fun r k _ _=>b1 r k) (fun r _=>b2 r) (fun r _=>b3 r)).toSum
 ·exact (Zo9 _).sm (i:=1) (j:=1) (by decide) (Zkp (by have:=hc k;omega)) (Zkp (by decide)) (by decide) (by decide)
theorem nrm_sm8 {rs:List RI} {rr ws:List Int} {n m:Nat} (hE:Zb2 rs rr ws=0) (hn:rs.length=n):∀ r ∈ Zd9 rs ws n m,∀ q ∈ r,Sm8 q:=fun r hr q hq=>by
 obtain ⟨b1,b2,b3⟩:=Zhw hE;unfold Zd9 at hr;obtain ⟨i,-,rfl⟩:=List.mem_map.1 hr;obtain ⟨j,-,rfl⟩:=List.mem_map.1 hq;exact ⟨Nat.lt_of_le_of_lt (Zew (by have:=(Zbq hE).1;omega) (fun r hr=>⟨b3 r,b1 r i,b1 r j⟩)) (Zb0 (by decide)),Nat.lt_of_le_of_lt (Zkp (show 1 <= 4294967296 by decide)) (Zb0 (by decide))⟩
theorem nrm_sq {w:World} {A:Option Addr} {c n m:Nat} {rs:List RI} {ws:List Int} {ms:List RX} (h:MXL w A m c ms) (hm0:0 < m) (hm12:m <= 12) (hr:∀ (i:Nat) (r:RX),ms[i]?=some r->r.n=((Zd9 rs ws n m)[i]?.getD []).length/\Zcn r.es=true):sqE ms=0:=by
 have hf:=Zpq h hm0 hm12 hm0 hm12 (fun r hr2=>by
  obtain ⟨k,hk,rfl⟩:=List.getElem_of_mem hr2;obtain ⟨h1,h2⟩:=hr k _ (List.getElem?_eq_getElem hk);refine ⟨h1.trans ?_,h2⟩;rw [Zqy (by rw [<- h.1];exact hk)];unfold Zo6
  simp)
 unfold sqE;rw [if_pos hf.1,if_pos (by rw [hf.2,h.1])]
def Lim8 (w:World) (A:Option Addr) (n c:Nat) (l:List Int):Prop:=
 l.length=n/\n <= c/\c <= maxLen/\(∀ x ∈ l,-128 <= x/\x <= 127)/\(0 < n->∃ b o,A=some ⟨b,o,none⟩/\∀ k,k < n->w.cell? ⟨b,o+k,none⟩=some (.int .i8 (l[k]?.getD 0)))
theorem Lim8.below {w w':World} {A:Option Addr} {n c:Nat} {l:List Int} (h:Lim8 w A n c l) (hb:Below w.heap.size w w'):Lim8 w' A n c l:=by
 obtain ⟨h1,h2,h3,h4,h5⟩:=h;refine ⟨h1,h2,h3,h4,fun hn=>?_⟩;obtain ⟨b,o,e,hc⟩:=h5 hn;exact ⟨b,o,e,fun k hk=>Zb hb (hc k hk)⟩
theorem Lim8.get {w:World} {A:Option Addr} {n c:Nat} {l:List Int} (h:Lim8 w A n c l) (k:Nat):-128 <= l[k]?.getD 0/\l[k]?.getD 0 <= 127:=by
 by_cases hk:k < l.length
 ·rw [List.getElem?_eq_getElem hk];exact h.2.2.2.1 _ (List.getElem_mem hk)
 ·rw [List.getElem?_eq_none (by omega)];decide
end Go.Proofs.YtigdclhagmnopaaGreat
