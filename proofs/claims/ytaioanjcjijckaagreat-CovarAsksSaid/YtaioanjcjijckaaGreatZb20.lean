/- The rank and the determinant by either elimination. The -/
import Derived.Test.YtaioanjcjijckaaGreatZb19
set_option linter.unusedSimpArgs false
set_option linter.unusedVariables false
namespace Go.Proofs.YtaioanjcjijckaaGreat
def byZ (R:List (List Rat)):Nat->Nat
 | 0=>1
 | k+1=>byZ R k * denAt R k
theorem Zuj (R:List (List Rat)) (k:Nat):((byZ R k:Nat):Rat)=Zat k (fun i=>((denAt R i:Nat):Rat)):=by
 induction k with
 | zero=>rfl
 | succ k ih=>simp only [byZ,Zat];rw [Rat.natCast_mul,ih]
theorem byZ_pos (R:List (List Rat)) (k:Nat):0 < byZ R k:=by
 induction k with
 | zero=>exact Nat.one_pos
 | succ k ih=>exact Nat.mul_pos ih (Zih _ _)
theorem Zp9 {n:Nat} {f:Nat->Rat} {k:Nat} (hk:k < n) (h:f k=0):Zat n f=0:=by
 induction n with
 | zero=>omega
 | succ n ih =>
  simp only [Zat]
  by_cases hkn:k=n
  ·rw [<- hkn,h];grind
  ·rw [ih (by omega)];grind
theorem Zpf {n:Nat} (M:Nat->Nat->Rat) (s:Nat->Rat):Zax n (fun a b=>s a * M a b)=Zat n s * Zax n M:=by
 have key:∀ m,m <= n->Zax n (fun a b=>if a < m then s a * M a b else M a b)=Zat m s * Zax n M:=by
  intro m
  induction m with
  | zero=>intro _;simp only [Zat];rw [Za4 (N:=M) (fun a b _ _=>if_neg (Nat.not_lt_zero a))];grind
  | succ m ih =>
   intro hm;have h0:=ih (by omega);have h1:=Zfw (n:=n) (fun a b=>if a < m then s a * M a b else M a b) (k:=m) (by omega) (M m) (M m) (s m) 0
   have e1:Zad (fun a b=>if a < m then s a * M a b else M a b) m (fun b=>s m * M m b+0 * M m b)=fun a b=>if a < m+1 then s a * M a b else M a b:=by
    funext a b
    unfold Zad
    by_cases ha:a=m
    ·subst ha;rw [if_pos rfl,if_pos (by omega)];grind
    ·rw [if_neg ha]
     by_cases h2:a < m
     ·rw [if_pos (by omega)];simp only [if_pos h2]
     ·rw [if_neg (by omega)];simp only [if_neg h2]
   have e2:Zad (fun a b=>if a < m then s a * M a b else M a b) m (M m)=fun a b=>if a < m then s a * M a b else M a b:=by
    funext a b
    unfold Zad
    by_cases ha:a=m
    ·subst ha;rw [if_pos rfl,if_neg (by omega)]
    ·rw [if_neg ha]
   rw [e1,e2,h0] at h1;rw [h1];simp only [Zat];grind
 rw [<- key n (Nat.le_refl _)]
 exact Za4 fun a b ha _=>by rw [if_pos ha]
section
variable {B S n m:Nat}
theorem EIR.diag {col:Nat} {R:List (List Rat)} {pc:Nat->Nat} {G:Nat->Nat->Rat} {s:Nat->Rat} (h:EIR B S n m col n R pc G s) (hc:col <= n) {l:Nat} (hl:l < n):pc l=l:=by
 have h1:∀ l,l < n->l <= pc l:=by
  intro l
  induction l with
  | zero=>intro _;omega
  | succ l ih=>intro hl;have:=ih (by omega);have:=h.inc l (l+1) (by omega) hl;omega
 have h2:∀ d l,l+d+1=n->pc l+d < n:=by
  intro d
  induction d with
  | zero=>intro l hl;have:=h.pcl l (by omega);omega
  | succ d ih=>intro l hl;have:=ih (l+1) (by omega);have:=h.inc l (l+1) (by omega) (by omega);omega
 have:=h1 l hl;have:=h2 (n - l - 1) l (by omega);omega
end
structure AltF (n:Nat) (F:(Nat->Nat->Rat)->Rat):Prop where
 congr:∀ {M N:Nat->Nat->Rat},(∀ a b,a < n->b < n->M a b=N a b)->F M=F N
 lin:∀ (M:Nat->Nat->Rat) (k:Nat),k < n->∀ (r s:Nat->Rat) (x y:Rat),F (Zad M k (fun b=>x * r b+y * s b))=x * F (Zad M k r)+y * F (Zad M k s)
 two:∀ (M:Nat->Nat->Rat) (k l:Nat),k < n->l < n->k ≠ l->(∀ b,M k b=M l b)->F M=0
theorem AltF.det (n:Nat):AltF n (Zax n):=⟨Za4,fun M _ hk r s x y=>Zfw M hk r s x y,fun _ _ _ hk hl hne h=>Zh6 hk hl hne h⟩
section
variable {n:Nat} {F:(Nat->Nat->Rat)->Rat}
theorem AltF.add (h:AltF n F) (M:Nat->Nat->Rat) {k:Nat} (hk:k < n) (r s:Nat->Rat):F (Zad M k (fun b=>r b+s b))=F (Zad M k r)+F (Zad M k s):=by
 have:=h.lin M k hk r s 1 1;rw [show (fun b=>r b+s b)=(fun b=>1 * r b+1 * s b) by funext b;grind,this];grind
theorem AltF.swap (h:AltF n F) {k l:Nat} (hk:k < n) (hl:l < n) (hne:k ≠ l) (M:Nat->Nat->Rat):F (Zad (Zad M k (M l)) l (M k))=- F M:=by
 obtain ⟨r,hr⟩:∃ r,M l=r:=⟨_,rfl⟩;obtain ⟨s,hs⟩:∃ s,M k=s:=⟨_,rfl⟩;have h0:=h.two (Zad (Zad M k (fun b=>r b+s b)) l (fun b=>r b+s b)) k l hk hl hne (fun b=>by simp [Zad,hne]);have h1:=h.two (Zad (Zad M k r) l r) k l hk hl hne (fun b=>by simp [Zad,hne]);have h2:=h.two (Zad (Zad M k s) l s) k l hk hl hne (fun b=>by simp [Zad,hne]);rw [h.add _ hl,Zbx _ hne,Zbx _ hne,h.add _ hk,h.add _ hk,<- Zbx _ hne,<- Zbx _ hne,<- Zbx _ hne,<- Zbx _ hne,h1,h2] at h0;rw [hr,hs]
 have e:Zad (Zad M k s) l r=M:=by rw [<- hs,Zdn,<- hr,Zdn]
 rw [e] at h0
 grind
theorem AltF.addrow (h:AltF n F) (M:Nat->Nat->Rat) {k l:Nat} (hk:k < n) (hl:l < n) (hne:k ≠ l) (c:Rat):F (Zad M k (fun b=>M k b+c * M l b))=F M:=by
 have h1:=h.lin M k hk (M k) (M l) 1 c
 rw [show (fun b=>M k b+c * M l b)=(fun b=>1 * M k b+c * M l b) by funext b;grind,h1,Zdn,
  h.two (Zad M k (M l)) k l hk hl hne (fun b=>by simp [Zad,Ne.symm hne])]
 grind
theorem AltF.clear (h:AltF n F) (M:Nat->Nat->Rat) {l:Nat} (hl:l < n) (c:Nat->Rat):F (fun a b=>if a=l then M a b else M a b+c a * M l b)=F M:=by
 have key:∀ m,m <= n->F (fun a b=>if a=l then M a b else if a < m then M a b+c a * M l b else M a b)=F M:=by
  intro m
  induction m with
  | zero=>intro _;exact h.congr fun a b _ _=>by split <;> rfl
  | succ m ih =>
   intro hm;have h0:=ih (by omega)
   by_cases hml:m=l
   ·rw [<- h0];refine h.congr fun a b _ _=>?_
    by_cases ha:a=l
    ·simp [ha]
    ·rw [if_neg ha,if_neg ha]
     by_cases h1:a < m
     ·rw [if_pos h1,if_pos (by omega)]
     ·rw [if_neg h1,if_neg (by omega)]
   ·have h1:=h.addrow (fun a b=>if a=l then M a b else if a < m then M a b+c a * M l b else M a b) (k:=m) (l:=l) (by omega) hl hml (c m)
    rw [h0] at h1
    rw [<- h1];refine h.congr fun a b _ _=>?_
    unfold Zad
    by_cases ha:a=m
    ·subst ha;simp [hml]
    ·rw [if_neg ha]
     by_cases hal:a=l
     ·simp [hal]
     ·rw [if_neg hal]
      by_cases h1:a < m
      ·rw [if_pos (by omega)];simp [hal,h1]
      ·rw [if_neg (by omega)];simp [hal,h1]
 rw [<- key n (Nat.le_refl _)]
 exact h.congr fun a b ha hb=>by rw [if_pos ha]
end
theorem Ztl (n:Nat) (A:Nat->Nat->Rat):∀ c,c <= n->∃ (U:Nat->Nat->Rat) (e:Rat),(∀ i j,i < n->j < c->j < i->U i j=0)/\∀ F,AltF n F->F A=e * F U:=by
 intro c
 induction c with
 | zero=>intro _;exact ⟨A,1,fun i j _ h=>by omega,fun F _=>by grind⟩
 | succ c ih =>
  intro hc;obtain ⟨U,e,h1,h2⟩:=ih (by omega)
  have clr:∀ V:Nat->Nat->Rat,(∀ i j,i < n->j < c->j < i->V i j=0)->V c c ≠ 0->∃ (U:Nat->Nat->Rat),(∀ i j,i < n->j < c+1->j < i->U i j=0)/\∀ F,AltF n F->F V=F U:=by
   intro V hV hp;refine ⟨fun a b=>if a=c then V a b else V a b+(if a < c then 0 else -(V a c / V c c)) * V c b,fun i j hi hj hji=>?_,fun F hF=>(hF.clear V (by omega) _).symm⟩
   by_cases hic:i=c
   ·subst hic;simp only [if_true];exact hV i j hi (by omega) hji
   ·simp only [if_neg hic]
    by_cases hlt:i < c
    ·rw [if_pos hlt,hV i j hi (by omega) hji];grind
    ·rw [if_neg hlt]
     by_cases hjc:j=c
     ·subst hjc;grind
     ·rw [hV i j hi (by omega) hji,hV c j (by omega) (by omega) (by omega)];grind
  by_cases hz:∀ i,c < i->i < n->U i c=0
  ·refine ⟨U,e,fun i j hi hj hji=>?_,h2⟩
   by_cases hjc:j=c
   ·subst hjc;exact hz i hji hi
   ·exact h1 i j hi (by omega) hji
  ·by_cases hp:U c c=0
   ·obtain ⟨k,hk1,hk2,hk3⟩:∃ k,c < k/\k < n/\U k c ≠ 0:=by
      refine Classical.byContradiction fun hn=>hz fun i h1 h2=>Classical.byContradiction fun h3=>hn ⟨i,h1,h2,h3⟩
    obtain ⟨V,hV1,hV2⟩:=clr (Zad (Zad U c (U k)) k (U c)) (fun i j hi hj hji=>by
     unfold Zad
     by_cases hik:i=k
     ·rw [if_pos hik];exact h1 c j (by omega) hj (by omega)
     ·rw [if_neg hik]
      by_cases hic:i=c
      ·rw [if_pos hic];exact h1 k j hk2 hj (by omega)
      ·rw [if_neg hic];exact h1 i j hi hj hji) (by
     unfold Zad
     rw [if_neg (by omega),if_pos rfl];exact hk3)
    refine ⟨V,-e,hV1,fun F hF=>?_⟩;rw [h2 F hF,<- hV2 F hF,hF.swap (by omega) hk2 (by omega)];grind
   ·obtain ⟨V,hV1,hV2⟩:=clr U h1 hp
    exact ⟨V,e,hV1,fun F hF=>by rw [h2 F hF,hV2 F hF]⟩
def Za7 (a b:Nat):Rat:=if a=b then 1 else 0
theorem AltF.tri {n:Nat} {F:(Nat->Nat->Rat)->Rat} (h:AltF n F):∀ t,t <= n->∀ U:Nat->Nat->Rat,(∀ i j,i < n->j < i->U i j=0)->(∀ i j,t <= i->i < n->U i j=Za7 i j)->F U=Zat t (fun i=>U i i) * F Za7
 | 0,_,U,_,h2=>by
  rw [h.congr (N:=Za7) (fun a b ha hb=>h2 a b (Nat.zero_le _) ha)];simp only [Zat];grind
 | t+1,ht,U,h1,h2=>by
  -- row t is cleared by the rows behind it
  have key:∀ c,c <= n->F (Zad U t (fun b=>if t < b/\b < c then 0 else U t b))=F U:=by
   intro c
   induction c with
   | zero=>intro _;refine h.congr fun a b _ _=>?_
           unfold Zad
           by_cases ha:a=t
           ·rw [if_pos ha,ha];simp only [Nat.not_lt_zero,and_false,if_false]
           ·rw [if_neg ha]
   | succ c ih =>
    intro hc;have h0:=ih (by omega)
    by_cases htc:t < c
    ·have h3:=h.addrow (Zad U t (fun b=>if t < b/\b < c then 0 else U t b)) (k:=t) (l:=c) (by omega) (by omega) (by omega) (-(U t c))
     rw [h0] at h3;rw [<- h3]
     refine h.congr fun a b _ hb=>?_
     unfold Zad
     by_cases ha:a=t
     ·subst ha
      simp only [if_true];rw [if_neg (by omega:¬ c=a),h2 c b (by omega) (by omega)];unfold Za7
      by_cases hbc:c=b
      ·subst hbc;rw [if_pos (by omega),if_neg (by omega),if_pos rfl];grind
      ·rw [if_neg hbc]
       by_cases hb2:a < b/\b < c
       ·rw [if_pos (by omega),if_pos hb2];grind
       ·rw [if_neg (by omega),if_neg hb2];grind
     ·rw [if_neg ha,if_neg ha,if_neg ha]
    ·rw [<- h0]
     refine h.congr fun a b _ _=>?_
     unfold Zad
     by_cases ha:a=t
     ·rw [if_pos ha,if_pos ha]
      simp only [if_neg (show ¬ (t < b/\b < c+1) by omega),if_neg (show ¬ (t < b/\b < c) by omega)]
     ·rw [if_neg ha,if_neg ha]
  have hk:=key n (Nat.le_refl _);have hs:=h.lin U t (by omega) (Za7 t) (Za7 t) (U t t) 0
  have e1:F (Zad U t (fun b=>if t < b/\b < n then 0 else U t b))=F (Zad U t (fun b=>U t t * Za7 t b+0 * Za7 t b)):=by
   refine h.congr fun a b _ hb=>?_
   unfold Zad
   by_cases ha:a=t
   ·rw [if_pos ha,if_pos ha]
    unfold Za7;simp only
    by_cases hb1:t=b
    ·subst hb1;rw [if_neg (by omega),if_pos rfl];grind
    ·rw [if_neg hb1]
     by_cases hb2:t < b
     ·rw [if_pos ⟨hb2,hb⟩];grind
     ·rw [if_neg (by omega),h1 t b (by omega) (by omega)];grind
   ·rw [if_neg ha,if_neg ha]
  have ih:=h.tri t (by omega) (Zad U t (Za7 t)) (fun i j hi hji=>by
   unfold Zad Za7;split
   ·rw [if_neg (by omega)]
   ·exact h1 i j hi hji) (fun i j hti hi=>by
   unfold Zad;split
   ·rename_i h;rw [h]
   ·exact h2 i j (by omega) hi)
  rw [<- hk,e1,hs,ih];rw [Zat,Zcm (f:=fun i=>Zad U t (Za7 t) i i) (g:=fun i=>U i i) (fun i hi=>by unfold Zad;rw [if_neg (by omega)])]
  grind
theorem Zoj (n:Nat):Zax n Za7=1:=by
 rw [Zhv (fun a b _ h=>by unfold Za7;rw [if_neg (by omega)])]
 have:∀ m,Zat m (fun i=>Za7 i i)=1:=by
  intro m
  induction m with
  | zero=>rfl
  | succ m ih=>simp only [Zat];rw [ih];unfold Za7;rw [if_pos rfl];grind
 exact this n
theorem AltF.eq {n:Nat} {F:(Nat->Nat->Rat)->Rat} (h:AltF n F) (A:Nat->Nat->Rat):F A=Zax n A * F Za7:=by
 obtain ⟨U,e,h1,h2⟩:=Ztl n A n (Nat.le_refl _);have h3:=h.tri n (Nat.le_refl _) U (fun i j hi hj=>h1 i j hi (by omega) hj) (fun i j h1 h2=>by omega);have h4:=(AltF.det n).tri n (Nat.le_refl _) U (fun i j hi hj=>h1 i j hi (by omega) hj) (fun i j h1 h2=>by omega);rw [h2 F h,h2 _ (AltF.det n),h3,h4,Zoj];grind
def Zos (k:Nat) (A B:Nat->Nat->Rat):Nat->Nat->Rat:=fun i j=>Z4 k (fun l=>A i l * B l j)
theorem det_mul (n:Nat) (A B:Nat->Nat->Rat):Zax n (Zos n A B)=Zax n A * Zax n B:=by
 have hF:AltF n (fun M=>Zax n (Zos n M B)):=by
  refine ⟨fun {M N} h=>Za4 fun a b ha hb=>Zx fun l hl=>by rw [h a l ha hl],fun M k hk r s x y=>?_,fun M k l hk hl hne h=>Zh6 hk hl hne (fun b=>Zx fun i hi=>by rw [h i])⟩
  have e:∀ q:Nat->Rat,Zos n (Zad M k q) B=Zad (Zos n M B) k (fun b=>Z4 n (fun l=>q l * B l b)):=by
   intro q
   funext a b
   unfold Zos Zad
   by_cases ha:a=k
   ·rw [if_pos ha];refine Zx fun l _=>by rw [if_pos ha]
   ·rw [if_neg ha];refine Zx fun l _=>by rw [if_neg ha]
  rw [e,e,e,<- Zfw (Zos n M B) hk]
  congr 2
  funext b
  rw [<- Zd8]
  exact Zx fun l _=>by grind
 have:=hF.eq A;rw [this]
 congr 1
 refine Za4 fun a b ha hb=>?_
 unfold Zos;rw [Zf9 a ha (fun i _ hi=>by unfold Za7;rw [if_neg (Ne.symm hi)];grind)];unfold Za7;rw [if_pos rfl];grind
theorem cramer {n:Nat} (A:Nat->Nat->Rat) (x y:Nat->Rat) (h:∀ i,i < n->Z4 n (fun j=>A i j * x j)=y i) {k:Nat} (hk:k < n):Zax n A * x k=Zax n (fun a b=>if b=k then y a else A a b):=by
 have hT:Zax n (fun a b=>if b=k then x a else Za7 a b)=x k:=by
  -- rows a: unit a+x a at column k;row k: x k at column k
  have h1:=(AltF.det n).lin (fun a b=>if b=k then x a else Za7 a b) k hk (Za7 k) (Za7 k) (x k) 0
  have e1:Zad (fun a b=>if b=k then x a else Za7 a b) k (fun b=>x k * Za7 k b+0 * Za7 k b)=(fun a b=>if b=k then x a else Za7 a b):=by
   funext a b
   unfold Zad
   by_cases ha:a=k
   ·subst ha;rw [if_pos rfl];unfold Za7
    by_cases hb:b=a
    ·subst hb;simp only [if_true];grind
    ·rw [if_neg hb,if_neg (Ne.symm hb)];grind
   ·rw [if_neg ha]
  rw [e1] at h1;have h2:=Zkj (n:=n) (fun a b=>Za7 a b) hk x
  have e2:Zax n (Zad (fun a b=>if b=k then x a else Za7 a b) k (Za7 k))=Zax n (fun a b=>if a=k then Za7 a b else Za7 a b+x a * Za7 k b):=by
   refine Za4 fun a b _ _=>?_
   unfold Zad
   by_cases ha:a=k
   ·rw [if_pos ha,if_pos ha,ha]
   ·rw [if_neg ha,if_neg ha]
    unfold Za7;simp only
    by_cases hb:b=k
    ·subst hb;rw [if_pos rfl,if_neg ha,if_pos rfl];grind
    ·rw [if_neg hb,if_neg (Ne.symm hb)];grind
  rw [e2,h2,Zoj] at h1;rw [h1];grind
 have h3:=det_mul n A (fun a b=>if b=k then x a else Za7 a b);rw [hT] at h3;rw [<- h3]
 refine Za4 fun a b ha hb=>?_
 unfold Zos
 by_cases hbk:b=k
 ·rw [if_pos hbk,<- h a ha]
  exact Zx fun l _=>by simp only;rw [if_pos hbk]
 ·rw [if_neg hbk,Zf9 b hb (fun i _ hi=>by simp only;rw [if_neg hbk];unfold Za7;rw [if_neg hi];grind)]
  simp only;rw [if_neg hbk];unfold Za7;rw [if_pos rfl];grind
open Go.RowKit
attribute [local go_sem] Zf
end Go.Proofs.YtaioanjcjijckaaGreat
