/- Systems of observations in memory: lists of int64, and -/
import Derived.Test.YthappeninglakaaGreatZi07
import Derived.Test.YthappeninglakaaGreatZi08
set_option maxRecDepth 100000
set_option maxHeartbeats 1000000
set_option linter.unusedSimpArgs false
set_option linter.unusedVariables false
namespace Go.Proofs.YthappeninglakaaGreat
open Go.RowKit
open Nat renaming le_refl→Qa,lt_of_le_of_lt→Qc,lt_of_lt_of_le→Qh,le_trans→Ql,mul_le_mul→Qp,zero_le→Qw,add_sub_cancel'→QB,le_mul_of_pos_right→QE,mod_two_eq_zero_or_one→QM,lt_irrefl→QN,gcd_dvd_right→QO,gcd→QP,le_add_right→QS,gcd_pos_of_pos_left→QT,div_le_self→QU,lt_or_gt_of_ne→QZ,zero_add→Yc,lt_trichotomy→Yd,lt_succ_self→Yh,not_lt_zero→Ym
open List renaming getElem?_eq_getElem→Qb,getElem?_map→Qd,getElem?_eq_none→Qe,replicate→Qf,getElem?_range→Qi,mem_of_getElem?→Qn,length_append→Qq,ext_getElem?→Qs,range→Qt,mem_or_eq_of_mem_set→Qv,getElem?_set→QA,getElem?_append_left→QC,getElem?_replicate→QF,map_set→QH,length_map→QJ,getElem_mem→QQ,take_left→QX,getElem_of_mem→QY,set_cons_succ→Yb,append_assoc→Yf,any_eq_true→Yg,length_cons→Yj,nil_append→Yn
open Option renaming getD_some→Qg,map_some→Qk,getD_none→QR,map_none→QV
open Builtin renaming zeroCells→Qj
open And renaming intro→Qm
open Rat renaming intCast_natCast→Qo,intCast_mul→Qr,divInt→Qu,divInt_eq_div→QG,num_divInt_den→Ya,intCast_sub→Yk,natCast_mul→Yl
open Int renaming natAbs_mul→Qx,natAbs_natCast→Qz,natAbs_ediv_of_dvd→QW,gcd_dvd_right→Ye,dvd_mul_left→Yi
open Below renaming refl→Qy
open Ne renaming symm→QD
open World renaming cell?_of_block→QI
open _root_.Array renaming toList_append→QK,getElem?_setIfInBounds→QL
attribute [local go_sem] Zg
structure RI where
 A:Option Addr
 n:Nat
 c:Nat
 l:List Int
def MIL(w:World)(A:Option Addr)(n c:Nat)(rs:List RI):Prop:=
 rs.length=n/\n<=c/\c<=maxLen/\(∀ r ∈ rs,LimI w r.A r.n r.c r.l)/\(0<n->∃ g o,A=some ⟨g,o,none⟩/\∀ (k:Nat) (r:RI),rs[k]?=some r->w.cell? ⟨g,o+k,none⟩=some (.slice r.A r.n r.c))
section
variable{w w':World}{A:Option Addr}{n c:Nat}{rs:List RI}
theorem MIL.below(h:MIL w A n c rs)(hb:Below w.heap.size w w'):MIL w' A n c rs:=by
 obtain⟨h1,h2,h3,h4,h5⟩:=h;refine⟨h1,h2,h3,λr hr=>(h4 r hr).below hb,λhn=>?_⟩;obtain⟨g,o,e,hc⟩:=h5 hn;exact⟨g,o,e,λk r hr=>(hb.cell (Zo (hc k r hr))).trans (hc k r hr)⟩
theorem MIL.at_(h:MIL w A n c rs){i:Nat}(hi:i<n):∃ g o r,A=some ⟨g,o,none⟩/\rs[i]?=some r/\w.cell? ⟨g,o+i,none⟩=some (.slice r.A r.n r.c)/\LimI w r.A r.n r.c r.l:=by
 obtain⟨h1,h2,h3,h4,h5⟩:=h;obtain⟨g,o,e,hc⟩:=h5 Gk;obtain⟨r,hr⟩:∃ r,rs[i]?=some r:=⟨_,Qb Gk⟩;exact⟨g,o,r,e,hr,hc i r hr,h4 r (Qn hr)⟩
theorem LimI.nlen{l:List Int}(h:LimI w A n c l):n<=maxLen:=Ql h.2.1 h.2.2.1
end
def Zqy(least x:Int):Bool:=decide (x<least) || decide (1099511627776<x)
def Ziy(least:Int)(l:List Int):Bool:=l.any (Zqy least)
theorem Ix{G:Prop}(h:G:=by
 go_in;go_wp2_with fail;go_ret;exact⟨by simp[Zqy,t1],by first|exact Below.refl _ _|exact Zf (Below.refl _ _) _⟩):G:=h
theorem Zye(x least:Int)(g:Nat)(w:World)(hc:w.cell? ⟨g,0,none⟩=some (.int .i64 least))(b:Bool)(hb:Zqy least x=b) :
    Calls Tryz.prog 138 #[.int .i64 x,.pointer (some ⟨g,0,none⟩)] w λe w'=>e=.returned (.bool b)/\Below w.heap.size w w':=by
 subst hb;by_cases h1:x<least
 ·have t1:decide (x<least)=true:=Gv h1
  exact Ix
 have t1:decide (x<least)=false:=Gu h1;exact Ix
theorem Zzr(A:Option Addr)(n c:Nat)(l:List Int)(least:Int)(p:Nat)(w:World)(h:LimI w A n c l)(hp:w.cell? ⟨p,0,none⟩=some (.int .i64 least))(b:Bool)(hb:Ziy least l=b) :
    Calls Tryz.prog 125 #[.slice A n c,.func (.func 138) #[] #[.pointer (some ⟨p,0,none⟩)]] w (IdxB w b):=by
 have hl:=h.1;have O:=h.2.1;have y:=h.2.2.1;unfold maxLen at y;have hg:=Za h.2.2.2.2;clear h;replace hl:=Za hl;replace hb:=Za hb;replace hp:=Za hp;go_in;go_wp2_with fail
 go_loopw [8] (λiv wr=>∃ i:Nat,i<=n/\iv=.int .i64 i/\Hid (∀ j,j<i->Zqy least (l[j]?.getD 0)=false)/\Below w.heap.size w wr) (λiv _=>n-(intOf iv).toNat)
 case atStart=>exact⟨0,Qw _,rfl,Za (λj hj=>by omega),Qy _ _⟩
 case round =>
  obtain⟨i,J,rfl,f,aK⟩:=hrel;by_cases hin:i<n
  case neg =>
   obtain rfl:n=i:=Gk;have C:decide ((n:Int)<(n:Int))=false:=Gh
   obtain rfl:b=false:=by
    rw[<- hb.out];unfold Ziy;rw[List.any_eq_false];intro e he;obtain⟨j,hj,I⟩:=QY he;have:=f.out j (by rw[hl.out]at hj;exact hj);rw[Qb hj,I]at this;simp only[Qg]at this;rw[this];decide
   exact Fj
  have C:decide ((i:Int)<(n:Int))=true:=Gv Gk;obtain⟨g,o,rfl,u⟩:=hg.out Gk;have c0:=(aK.cell (Zo (u i hin))).trans (u i hin);have hC:=Za (λW1 (h1:Below wr.heap.size wr W1)=>Zye (l[i]?.getD 0) least p W1 ((h1.cell (Qh (Zo hp.out) aK.size)).trans ((aK.cell (Zo hp.out)).trans hp.out)));clear u;obtain⟨x,hx⟩:=Gz (Zqy least (l[i]?.getD 0));cases x
  ·have ar:Hid (∀ j,j<i+1->Zqy least (l[j]?.getD 0)=false):=Za (λj hj=>by
     rcases Nat.lt_or_ge j i with h'|h';exact f.out j h';obtain rfl:j=i:=Gk;exact hx)
   replace hx:=Za hx;generalize l[i]?.getD 0=z at *;go_wp2_with fail;refine(hC.out _ (by first|exact Qy _ _|exact Zf (Qy _ _) _) _ hx.out).mono ?_;exact Ep
  obtain rfl:b=true:=by
    rw[<- hb.out];unfold Ziy;rw[Yg];refine⟨l[i]?.getD 0,?_,hx⟩;have:=hl.out;rw[Qb Gk];exact QQ _
  replace hx:=Za hx;generalize l[i]?.getD 0=z at *;go_wp2_with fail;refine(hC.out _ (by first|exact Qy _ _|exact Zf (Qy _ _) _) _ hx.out).mono ?_;exact El
theorem Zwv(A:Option Addr)(n c:Nat)(l:List Int)(least:Int)(p:Nat)(w:World)(h:LimI w A n c l)(hp:w.cell? ⟨p,0,none⟩=some (.int .i64 least))(b:Bool)(hb:Ziy least l=b) :
    Calls Tryz.prog 77 #[.slice A n c,.func (.func 138) #[] #[.pointer (some ⟨p,0,none⟩)]] w λe w'=>e=.returned (.bool b)/\Below w.heap.size w w':=by
 go_in;go_wp2_with fail;refine(Zzr A n c l least p w h hp b hb).mono ?_;exact Ee
theorem Zhd(A:Option Addr)(n c:Nat)(l:List Int)(least:Int)(w:World)(h:LimI w A n c l)(b:Bool)(hb:Ziy least l=b) :
    Calls Tryz.prog 90 #[.slice A n c,.int .i64 least] w λe w'=>e=.returned (.bool b)/\Below w.heap.size w w':=by
 obtain⟨W0,u,f,q0,s0⟩:=Zam w 2 #[.int .i64 least];have q1:=(q0.cell 0:W0.cell? ⟨w.heap.size,0,none⟩=some (.int .i64 least));have hC:=Za (λW1 (h1:Below W0.heap.size W0 W1)=>Zwv A n c l least w.heap.size W1 ((h.below f).below h1) ((h1.cell (Zo q1)).trans q1) b hb);clear h;go_in;go_wp2_with fail;refine(hC.out _ (by first|exact Qy _ _|exact Zf (Qy _ _) _)).mono ?_;rintro e w1 ⟨rfl,o⟩;go_wp2_with fail;go_ret;exact⟨rfl,Gs f o⟩
theorem Zx3(A:Option Addr)(n c:Nat)(w:World)(hn:n<=maxLen) :
    Calls Tryz.prog 89 #[.slice A n c] w λe w'=>e=.returned (.bool (decide (12<n)))/\Below w.heap.size w w':=by
 exact Bz
def RI.long(r:RI):Bool:=decide (12<r.n)
theorem Zy2(A:Option Addr)(n c:Nat)(rs:List RI)(w:World)(h:MIL w A n c rs)(b:Bool)(hb:rs.any RI.long=b) :
    Calls Tryz.prog 79 #[.slice A n c,.func (.func 89) #[] #[]] w (IdxB w b):=by
 have hl:=h.1;have u:=h.2.1;have f:=h.2.2.1;unfold maxLen at f;replace hl:=Za hl;replace hb:=Za hb;replace h:=Za h;go_in;go_wp2_with fail
 go_loopw [8] (λiv wr=>∃ i:Nat,i<=n/\iv=.int .i64 i/\Hid (∀ j e,j<i->rs[j]?=some e->e.long=false)/\Below w.heap.size w wr) (λiv _=>n-(intOf iv).toNat)
 case atStart=>exact⟨0,Qw _,rfl,Za (λj e hj=>by omega),Qy _ _⟩
 case round =>
  obtain⟨i,y,rfl,ay,aK⟩:=hrel;by_cases hin:i<n
  case neg =>
   exact En
  have fw:decide ((i:Int)<(n:Int))=true:=Gv Gk;obtain⟨g,o,r,rfl,he,c0,hL⟩:=(h.out.below aK).at_ hin;have hC:=Za (λW1=>Zx3 r.A r.n r.c W1 hL.nlen);clear hL;by_cases hx:12<r.n
  ·obtain rfl:b=true:=by
     rw[<- hb.out,Yg];exact⟨r,Qn he,by unfold RI.long;simpa using hx⟩
   exact Ca
  have ar:Hid (∀ j e,j<i+1->rs[j]?=some e->e.long=false):=Za (λj e' hj he'=>by
    rcases Nat.lt_or_ge j i with h'|h';exact ay.out j e' h' he';obtain rfl:j=i:=Gk;rw[he]at he';cases he';unfold RI.long;simpa using hx)
  exact Cb
theorem Zwp(A:Option Addr)(n c:Nat)(rs:List RI)(w:World)(h:MIL w A n c rs)(b:Bool)(hb:rs.any RI.long=b) :
    Calls Tryz.prog 41 #[.slice A n c,.func (.func 89) #[] #[]] w λe w'=>e=.returned (.bool b)/\Below w.heap.size w w':=by
 go_in;go_wp2_with fail;refine(Zy2 A n c rs w h b hb).mono ?_;exact Ee
open Go.ChangeShapes Go.WideShapes Go.Deep Go.RowKit
section
variable{H:Type}{enc:TypeId × Value->H}{w:World}{base:Nat}{spare:Nat->Bool}{held:Bool}
end
def Z0:Nat->(Nat->Rat)->Rat
 | 0,_=>0
 | n+1,f=>Z0 n f+f n
def Zcn(i a:Nat):Nat:=if a<i then a else a+1
def sgnQ(i:Nat):Rat:=if i%2=0 then 1 else -1
def Zay:Nat->(Nat->Nat->Rat)->Rat
 | 0,_=>1
 | n+1,M=>Z0 (n+1) λi=>sgnQ i*M i 0*Zay n (λa b=>M (Zcn i a) (b+1))
theorem Zw{n:Nat}{f g:Nat->Rat}(h:∀ i,i<n->f i=g i):Z0 n f=Z0 n g:=by
 induction n with
 | zero=>rfl
 | succ n ih=>simp only[Z0];rw[ih (λi hi=>h i Gk),h n Gk]
theorem FD{G:Prop}(h:G:=by
 induction n with
 | zero=>simp only[Z0];grind
 | succ n ih=>simp only[Z0];rw[ih];grind):G:=h
theorem Ze6{n:Nat}(f g:Nat->Rat)(x y:Rat):Z0 n (λi=>x*f i+y*g i)=x*Z0 n f+y*Z0 n g:=by
 exact FD
theorem Zgl{n:Nat}{f:Nat->Rat}(h:∀ i,i<n->f i=0):Z0 n f=0:=by
 induction n with
 | zero=>rfl
 | succ n ih=>simp only[Z0];rw[ih (λi hi=>h i Gk),h n Gk];grind
theorem Zfk{n:Nat}{f:Nat->Rat}(k:Nat)(hk:k<n)(h:∀ i,i<n->i≠k->f i=0):Z0 n f=f k:=by
 induction n with
 | zero=>omega
 | succ n ih =>
  simp only[Z0];by_cases hn:k=n
  ·subst hn
   rw[Zgl (λi hi=>h i Gk Gk)];grind
  rw[ih Gk (λi hi=>h i Gk),h n Gk Gk];grind
theorem Z1x{n:Nat}{f:Nat->Rat}(k:Nat)(hk:k+1<n)(h:∀ i,i<n->i≠k->i≠k+1->f i=0):Z0 n f=f k+f (k+1):=by
 induction n with
 | zero=>omega
 | succ n ih =>
  simp only[Z0];by_cases hn:k+1=n
  ·subst hn
   rw[Zfk k Gk (λi hi h2=>h i Gk h2 Gk)]
  rw[ih Gk (λi hi=>h i Gk),h n Gk Gk Gk];grind
theorem Zsn{i a n:Nat}(ha:a<n):Zcn i a<n+1:=by unfold Zcn;split <;> omega
theorem Z00(i a:Nat):Zcn i a≠i:=by unfold Zcn;split <;> omega
theorem Zjj{i k:Nat}(h:k≠i):Zcn i (if k<i then k else k-1)=k:=by
 unfold Zcn;by_cases h1:k<i;rw[Gx h1,Gx h1];rw[Gw h1,Gw Gk];omega
theorem Zz8{i a b:Nat}(h:Zcn i a=Zcn i b):a=b:=by unfold Zcn at h;split at h <;> split at h <;> omega
theorem Za7{n:Nat}{M N:Nat->Nat->Rat}(h:∀ a b,a<n->b<n->M a b=N a b):Zay n M=Zay n N:=by
 induction n generalizing M N with
 | zero=>rfl
 | succ n ih =>
  simp only[Zay];refine Zw λi hi=>?_;rw[h i 0 hi Gk,ih (λa b ha hb=>h _ _ (Zsn ha) Gk)]
def Zak(M:Nat->Nat->Rat)(k:Nat)(r:Nat->Rat):Nat->Nat->Rat:=λa b=>if a=k then r b else M a b
theorem Zfw{M:Nat->Nat->Rat}{k i:Nat}{r:Nat->Rat}(h:k≠i) :
    (λa b=>Zak M k r (Zcn i a) (b+1))=Zak (λa b=>M (Zcn i a) (b+1)) (if k<i then k else k-1) (λb=>r (b+1)):=by
 funext a b
 unfold Zak;by_cases ha:a=(if k<i then k else k-1);rw[Gx ha,ha,Zjj h,Gx rfl];rw[Gw ha,Gw];intro e;exact ha (Zz8 (i:=i) (by rw[e,Zjj h]))
theorem Zfx{M:Nat->Nat->Rat}{k:Nat}{r:Nat->Rat}:(λa b=>Zak M k r (Zcn k a) (b+1))=(λa b=>M (Zcn k a) (b+1)):=by
 funext a b
 unfold Zak;rw[Gw (Z00 k a)]
theorem Zhn{n:Nat}(M:Nat->Nat->Rat){k:Nat}(hk:k<n)(r s:Nat->Rat)(x y:Rat) :
    Zay n (Zak M k (λb=>x*r b+y*s b))=x*Zay n (Zak M k r)+y*Zay n (Zak M k s):=by
 induction n generalizing M k r s with
 | zero=>omega
 | succ n ih =>
  simp only[Zay];rw[<- Ze6];refine Zw λi hi=>?_;by_cases h:k=i
  ·subst h
   rw[Zfx,Zfx,Zfx];simp only[Zak,if_true]
   grind
  rw[Zfw h,Zfw h,Zfw h];rw[ih (λa b=>M (Zcn i a) (b+1)) (k:=if k<i then k else k-1) (by split <;> omega) (λb=>r (b+1)) (λb=>s (b+1))];simp only[Zak,Gw (show ¬ i=k from λe=>h e.symm)]
  grind
theorem Zyh(i:Nat):sgnQ (i+1)=- sgnQ i:=by
 unfold sgnQ;rcases QM i with h|h;rw[Gx h,Gw Gk];rw[Gw (by omega:¬ i%2=0),Gx Gk];grind
theorem Zsx{n:Nat}{M:Nat->Nat->Rat}{k:Nat}(hk:k+1<n)(h:∀ b,M (k+1) b=M k b):Zay n M=0:=by
 induction n generalizing M k with
 | zero=>omega
 | succ n ih =>
  simp only[Zay];rw[Z1x k hk]
  ·have hm:(λa b=>M (Zcn k a) (b+1))=(λa b=>M (Zcn (k+1) a) (b+1)):=by
     funext a b
     by_cases ha:a=k
     ·subst ha
      simp only[Zcn,Gw (QN a),Gx (Yh a)];exact h _
     have:Zcn k a=Zcn (k+1) a:=by unfold Zcn;split <;> split <;> omega
     rw[this]
   rw[hm,h 0,Zyh];grind
  intro i hi h1 h2;rw[ih (M:=λa b=>M (Zcn i a) (b+1)) (k:=if k<i then k else k-1)]
  ·grind
  ·split <;> omega
  intro b;have e1:Zcn i (if k<i then k else k-1)=k:=Zjj (QD h1);have e2:Zcn i ((if k<i then k else k-1)+1)=k+1:=by unfold Zcn;split <;> split <;> omega
  rw[e1,e2];exact h _
theorem Zed(M:Nat->Nat->Rat)(k:Nat):Zak M k (M k)=M:=by
 funext a b;unfold Zak;split
 rename_i h;rw[h];rfl
theorem Zce(M:Nat->Nat->Rat){k l:Nat}(h:k≠l)(r s:Nat->Rat):Zak (Zak M k r) l s=Zak (Zak M l s) k r:=by
 funext a b;unfold Zak
 by_cases h1:a=k;subst h1;simp[h];simp[h1]
theorem Zne{n:Nat}(M:Nat->Nat->Rat){k:Nat}(hk:k<n)(r s:Nat->Rat) :
    Zay n (Zak M k (λb=>r b+s b))=Zay n (Zak M k r)+Zay n (Zak M k s):=by
 have:=Zhn M hk r s 1 1;rw[show (λb=>r b+s b)=(λb=>1*r b+1*s b) by funext b;grind,this];grind
theorem Zka{n:Nat}{k l:Nat}(hk:k<n)(hl:l<n)(hne:k≠l)(hz:∀ (M:Nat->Nat->Rat),(∀ b,M k b=M l b)->Zay n M=0)(M:Nat->Nat->Rat)(r s:Nat->Rat) :
    Zay n (Zak (Zak M k r) l s)=- Zay n (Zak (Zak M k s) l r):=by
 have h:=hz (Zak (Zak M k (λb=>r b+s b)) l (λb=>r b+s b)) (λb=>by simp[Zak,hne]);have h1:=hz (Zak (Zak M k r) l r) (λb=>by simp[Zak,hne]);have h2:=hz (Zak (Zak M k s) l s) (λb=>by simp[Zak,hne]);rw[Zne _ hl,Zce _ hne,Zce _ hne,Zne _ hk,Zne _ hk,<- Zce _ hne,<- Zce _ hne,<- Zce _ hne,<- Zce _ hne,h1,h2]at h
 grind
theorem Zl1{n:Nat}:∀ (d:Nat) (M:Nat->Nat->Rat) (k:Nat),k+d+1<n->(∀ b,M k b=M (k+d+1) b)->Zay n M=0:=by
 intro d
 induction d with
 | zero=>intro M k hk h;exact Zsx hk (λb=>(h b).symm)
 | succ d ih =>
  intro M k hk h;have h1:=Zka (n:=n) (k:=k+d+1) (l:=k+d+2) Gk Gk Gk (λM h=>Zsx (k:=k+d+1) Gk (λb=>(h b).symm)) M (M (k+d+1)) (M (k+d+2));rw[Zed,Zed]at h1;rw[h1,ih _ k Gk]
  ·grind
  intro b;have:=h b;rw[show k+(d+1)+1=k+d+2 by omega]at this;simp only[Zak];rw[Gw Gk,Gw Gk,Gw Gk];simpa using this
theorem Zkn{n:Nat}{M:Nat->Nat->Rat}{k l:Nat}(hk:k<n)(hl:l<n)(hne:k≠l)(h:∀ b,M k b=M l b):Zay n M=0:=by
 rcases QZ hne with h1|h1;exact Zl1 (l-k-1) M k Gk (λb=>by rw[show k+(l-k-1)+1=l by omega];exact h b);exact Zl1 (k-l-1) M l Gk (λb=>by rw[show l+(k-l-1)+1=k by omega];exact(h b).symm)
theorem Zzu{n:Nat}(M:Nat->Nat->Rat){k l:Nat}(hk:k<n)(hl:l<n)(hne:k≠l):Zay n (Zak (Zak M k (M l)) l (M k))=- Zay n M:=by
 have h:=Zka hk hl hne (λM h=>Zkn hk hl hne h) M (M l) (M k);rw[h];congr 1;rw[Zed];congr 1
 funext a b
 unfold Zak
 split
 rename_i h;rw[h];rfl
theorem Ztn{n:Nat}(M:Nat->Nat->Rat){k l:Nat}(hk:k<n)(hl:l<n)(hne:k≠l)(c:Rat):Zay n (Zak M k (λb=>M k b+c*M l b))=Zay n M:=by
 have h:=Zhn M hk (M k) (M l) 1 c
 rw[show (λb=>M k b+c*M l b)=(λb=>1*M k b+c*M l b) by funext b;grind,h,Zed,
  Zkn (M:=Zak M k (M l)) hk hl hne (λb=>by simp[Zak,QD hne])]
 grind
theorem Ik{G:Prop}(h:G:=by
 by_cases ha:a=l;simp[ha];rw[Gw ha,Gw ha];by_cases h1:a<m;rw[Gx h1,Gx Gk];rw[Gw h1,Gw Gk]):G:=h
theorem FR{G:Prop}(h:G:=by
 unfold Zak;by_cases ha:a=m;subst ha;simp[fo];rw[Gw ha];by_cases cb:a=l;simp[cb];rw[Gw cb];by_cases h1:a<m;rw[Gx Gk];simp[cb,h1];rw[Gw Gk];simp[cb,h1]):G:=h
theorem Zn3{n:Nat}(M:Nat->Nat->Rat){l:Nat}(hl:l<n)(c:Nat->Rat):Zay n (λa b=>if a=l then M a b else M a b+c a*M l b)=Zay n M:=by
 have key:∀ m,m<=n->Zay n (λa b=>if a=l then M a b else if a<m then M a b+c a*M l b else M a b)=Zay n M:=by
  intro m
  induction m with
  | zero=>intro _;congr 1;funext a b;split <;> rfl
  | succ m ih =>
   intro hm;have h0:=ih Gk;by_cases fo:m=l
   ·rw[<- h0];congr 1;funext a b
    exact Ik
   have h1:=Ztn (n:=n) (λa b=>if a=l then M a b else if a<m then M a b+c a*M l b else M a b) (k:=m) (l:=l) Gk hl fo (c m);rw[h0]at h1;rw[<- h1];congr 1;funext a b;exact FR
 rw[<- key n (Qa _)];exact Za7 λa b ha hb=>by rw[Gx ha]
def Za9:Nat->(Nat->Rat)->Rat
 | 0,_=>1
 | n+1,f=>Za9 n f*f n
theorem Zda{n:Nat}{f g:Nat->Rat}(h:∀ i,i<n->f i=g i):Za9 n f=Za9 n g:=by
 induction n with
 | zero=>rfl
 | succ n ih=>simp only[Za9];rw[ih (λi hi=>h i Gk),h n Gk]
theorem Zsc{n:Nat}(f:Nat->Rat):Za9 (n+1) f=f 0*Za9 n (λi=>f (i+1)):=by
 induction n generalizing f with
 | zero=>simp only[Za9];grind
 | succ n ih=>rw[Za9,ih,Za9];grind
theorem Zkg{n:Nat}{M:Nat->Nat->Rat}(h:∀ a b,a<n->b<a->M a b=0):Zay n M=Za9 n (λi=>M i i):=by
 induction n generalizing M with
 | zero=>rfl
 | succ n ih =>
  simp only[Zay];rw[Zfk 0 Gk]
  ·rw[Zsc,ih]
   ·have:sgnQ 0=1:=rfl
    rw[this,Zda (g:=λi=>M (i+1) (i+1)) (λi hi=>by simp only[Zcn];rw[Gw Gk])];grind
   intro a b ha hb;simp only[Zcn];rw[Gw Gk];exact h _ _ Gk Gk
  intro i hi h0;rw[h i 0 hi Gk];grind
def Zah(Z:List (List Int))(i j:Nat):Int:=(Z[i]?.getD [])[j]?.getD 0
def Zh(R:List (List Rat))(i j:Nat):Rat:=(R[i]?.getD [])[j]?.getD 0
def Zaj{α:Type}(l:List α)(i j:Nat):List α:=match l[i]?,l[j]? with
 | some x,some y=>(l.set i y).set j x
 | _,_=>l
def Zsm(p row:List Int)(col:Nat)(piv last:Int):List Int:=(Qt row.length).map λk=>Int.fdiv (row[k]?.getD 0*piv-row[col]?.getD 0*p[k]?.getD 0) last
def Zdq(Z:List (List Int))(r col:Nat)(last:Int):List (List Int):=
 (Qt Z.length).map λi=>if i<=r then Z[i]?.getD []else Zsm (Z[r]?.getD []) (Z[i]?.getD []) col (Zah Z r col) last
def Zot(p row:List Rat)(col:Nat):List Rat:=(Qt row.length).map λk=>if k<col then row[k]?.getD 0 else row[k]?.getD 0-row[col]?.getD 0/p[col]?.getD 0*p[k]?.getD 0
def Zbr(R:List (List Rat))(r col:Nat):List (List Rat):=(Qt R.length).map λi=>if i<=r then R[i]?.getD []else Zot (R[r]?.getD []) (R[i]?.getD []) col
def Zbp(z:Nat->Bool)(n:Nat):Nat->Nat->Nat
 | 0,k=>k
 | f+1,k=>if k<n/\z k=true then Zbp z n f (k+1)else k
def Zar:Nat->Nat->Nat->List (List Int)->Bool->Int->List (List Int) × Nat × Bool × Int
 | 0,_,r,Z,neg,last=>(Z,r,neg,last)
 | f+1,col,r,Z,neg,last =>
  if r=Z.length then (Z,r,neg,last)
  else if Zbp (λi=>Zah Z i col == 0) Z.length Z.length r=Z.length then Zar f (col+1) r Z neg last
  else Zar f (col+1) (r+1) (Zdq (Zaj Z (Zbp (λi=>Zah Z i col == 0) Z.length Z.length r) r) r col last) (neg != decide (Zbp (λi=>Zah Z i col == 0) Z.length Z.length r≠r)) (Zah Z (Zbp (λi=>Zah Z i col == 0) Z.length Z.length r) col)
def Zbh:Nat->Nat->Nat->List (List Rat)->Bool->List (List Rat) × Nat × Bool
 | 0,_,r,R,neg=>(R,r,neg)
 | f+1,col,r,R,neg =>
  if r=R.length then (R,r,neg)
  else if Zbp (λi=>Zh R i col == 0) R.length R.length r=R.length then Zbh f (col+1) r R neg
  else Zbh f (col+1) (r+1) (Zbr (Zaj R (Zbp (λi=>Zh R i col == 0) R.length R.length r) r) r col) (neg != decide (Zbp (λi=>Zh R i col == 0) R.length R.length r≠r))
theorem Zfd{z:Nat->Bool}{n:Nat}:∀ {f k:Nat},n<=k+f->k<=n->k<=Zbp z n f k/\Zbp z n f k<=n/\(∀ i,k<=i->i<Zbp z n f k->z i=true)/\(Zbp z n f k<n->z (Zbp z n f k)=false)
 | 0,k,h,hk=>by
  obtain rfl:k=n:=Gk;exact⟨Qa _,Qa _,λi h1 h2=>by simp only[Zbp]at h2;omega,λh=>by simp only[Zbp]at h;omega⟩
 | f+1,k,h,hk=>by
  unfold Zbp;by_cases hc:k<n/\z k=true
  ·rw[Gx hc]
   obtain⟨h1,h2,h3,h4⟩:=Zfd (z:=z) (n:=n) (f:=f) (k:=k+1) Gk Gk;refine⟨by omega,h2,λi hi1 hi2=>?_,h4⟩;by_cases hik:i=k;rw[hik];exact hc.2;exact h3 i Gk hi2
  rw[Gw hc];refine⟨Qa _,hk,λi h1 h2=>by omega,λhkn=>?_⟩;cases hz:z k with
  | false=>rfl
  | true=>exact absurd ⟨hkn,hz⟩ hc
theorem Zmp{z:Nat->Bool}{n f k q:Nat}(h:n<=k+f)(hk:k<=q)(hq:q<=n)(h1:∀ i,k<=i->i<q->z i=true)(h2:q<n->z q=false):Zbp z n f k=q:=by
 obtain⟨a,b,c,d⟩:=Zfd (z:=z) h (Ql hk hq);rcases Yd (Zbp z n f k) q with h3|h3|h3;have:=d Gk;rw[h1 _ a h3]at this;cases this;exact h3;have:=c q hk h3;rw[h2 Gk]at this;cases this
theorem Zsy{y z:Nat->Bool}{n f k:Nat}(h:n<=k+f)(hk:k<=n)(he:∀ i,k<=i->i<n->y i=z i):Zbp y n f k=Zbp z n f k:=by
 obtain⟨a,b,c,d⟩:=Zfd (z:=z) h hk;exact Zmp h a b (λi h1 h2=>by rw[he i h1 Gk];exact c i h1 h2) (λh1=>by rw[he _ a h1];exact d h1)
def BndQ(B:Nat)(q:Rat):Prop:=∃ z:Int,q=(z:Rat)/\z.natAbs<=B
theorem BndQ.add{B C:Nat}{p q:Rat}(h:BndQ B p)(k:BndQ C q):BndQ (B+C) (p+q):=by
 obtain⟨a,rfl,h1⟩:=h;obtain⟨b,rfl,h2⟩:=k;exact⟨a+b,by rw[Rat.intCast_add],by omega⟩
theorem BndQ.mul{B C:Nat}{p q:Rat}(h:BndQ B p)(k:BndQ C q):BndQ (B*C) (p*q):=by
 obtain⟨a,rfl,h1⟩:=h;obtain⟨b,rfl,h2⟩:=k;exact⟨a*b,by rw[Qr],by rw[Qx];exact Qp h1 h2⟩
theorem BndQ.mono{B C:Nat}{q:Rat}(h:BndQ B q)(hBC:B<=C):BndQ C q:=by obtain⟨a,h1,h2⟩:=h;exact⟨a,h1,by omega⟩
def Zbo(B:Nat):Nat->Nat
 | 0=>1
 | n+1=>(n+1)*(B*Zbo B n)
theorem Zkt{B n:Nat}{f:Nat->Rat}(h:∀ i,i<n->BndQ B (f i)):BndQ (n*B) (Z0 n f):=by
 induction n with
 | zero=>exact⟨0,rfl,by simp⟩
 | succ n ih=>rw[Nat.succ_mul];exact(ih λi hi=>h i Gk).add (h n Gk)
theorem Z2m(i:Nat):BndQ 1 (sgnQ i):=by unfold sgnQ;split;exact⟨1,rfl,by decide⟩;exact⟨-1,rfl,by decide⟩
theorem Zhv{B n:Nat}{M:Nat->Nat->Rat}(h:∀ a b,a<n->b<n->BndQ B (M a b)):BndQ (Zbo B n) (Zay n M):=by
 induction n generalizing M with
 | zero=>exact⟨1,rfl,by simp[Zbo]⟩
 | succ n ih =>
  simp only[Zay,Zbo];refine Zkt λi hi=>?_;have:=((Z2m i).mul (h i 0 hi Gk)).mul (ih (M:=λa b=>M (Zcn i a) (b+1)) λa b ha hb=>h _ _ (Zsn ha) Gk)
  rwa [Nat.one_mul]at this
theorem Zc3{B m n:Nat}(hB:1<=B)(h:m<=n):Zbo B m<=Zbo B n:=by
 induction n with
 | zero=>obtain rfl:m=0:=by omega
         exact Qa _
 | succ n ih =>
  by_cases hm:m=n+1;rw[hm];exact Qa _;refine Ql (ih Gk) ?_;simp only[Zbo]
  calc Zbo B n=1*(1*Zbo B n):=Gh
   _<=(n+1)*(B*Zbo B n):=Qp Gk (Qp hB (Qa _))
def swI(k r i:Nat):Nat:=if i=k then r else if i=r then k else i
theorem Zrf(k r i:Nat):swI k r (swI k r i)=i:=by
 unfold swI;by_cases h1:i=k
 ·subst h1
  by_cases h2:i=r;simp[h2];simp[QD h2]
 by_cases h2:i=r;subst h2;simp[h1];simp[h1,h2]
theorem Zdu{α:Type}{l:List α}{k r:Nat}(hk:k<l.length)(hr:r<l.length)(i:Nat):(Zaj l k r)[i]?=l[swI k r i]?:=by
 unfold Zaj;rw[Qb hk,Qb hr];simp only;unfold swI;rw[QA,QA,List.length_set];by_cases h1:r=i
 ·subst h1
  rw[Gx rfl,Gx hr];by_cases h2:r=k;subst h2;simp[hr];rw[Gw h2,Gx rfl,Qb hk]
 rw[Gw h1];by_cases h2:k=i;subst h2;simp[hk,hr];rw[Gw h2,Gw (QD h2),Gw (QD h1)]
theorem Zeg{α:Type}(l:List α)(k r:Nat):(Zaj l k r).length=l.length:=by unfold Zaj;split <;> simp
theorem Zh5{k r i n:Nat}(hk:k<n)(hr:r<n)(hi:i<n):swI k r i<n:=by unfold swI;split <;> (try split) <;> omega
structure EIR (B S n m col r:Nat) (R:List (List Rat)) (pc:Nat->Nat) (G:Nat->Nat->Rat) (s:Nat->Rat):Prop where
 len:R.length=n
 row:∀ i,i<n->(R[i]?.getD []).length=m
 pcl:∀ l,l<r->pc l<col
 inc:∀ l l',l<l'->l'<r->pc l<pc l'
 low:∀ i j,r<=i->i<n->j<col->Zh R i j=0
 bef:∀ l j,l<r->j<pc l->Zh R l j=0
 piv:∀ l,l<r->Zh R l (pc l)≠0
 rn:r<=n
 cm:col<=m
 sB:∀ i,i<n->BndQ S (s i)/\s i≠0
 gB:∀ i j,i<n->BndQ B (G i j)
 det:∀ (N:Nat) (f σ:Nat->Nat),(∀ a,a<N->σ a<n)->(∀ a,a<r->σ a=a)->(∀ a,r<=a->r<=σ a)->Zay N (λa b=>s (σ a)*Zh R (σ a) (f b))=Zay N (λa b=>G (σ a) (f b))
def Zer(R:List (List Rat))(pc:Nat->Nat)(s:Nat->Rat)(l:Nat):Rat:=Za9 l (λi=>s i*Zh R i (pc i))
section
variable{B S n m col r:Nat}{R:List (List Rat)}{pc:Nat->Nat}{G:Nat->Nat->Rat}{s:Nat->Rat}
theorem EIR.minor_eq(h:EIR B S n m col r R pc G s){i:Nat}(hi:i<n)(j:Nat) :
    Zer R pc s (min i r)*(s i*Zh R i j)=Zay (min i r+1) (λa b=>G (if a<min i r then a else i) (if b<min i r then pc b else j)):=by
 obtain⟨q,hq⟩:∃ q,q=min i r:=⟨_,rfl⟩;rw[<- hq];have e:=h.rn
 have hd:=h.det (q+1) (λb=>if b<q then pc b else j) (λa=>if a<r then a else if i<r then a else i)
  (λa ha=>by
   by_cases h1:a<r;rw[Gx h1];omega
   ·rw[Gw h1];by_cases h2:i<r
    omega;rw[Gw h2];exact hi) (λa ha=>by rw[Gx ha]) (λa ha=>by
   rw[Gw Gk];by_cases h2:i<r;rw[Gx h2];exact ha;rw[Gw h2];omega)
 have hσ:∀ a,a<q+1->(if a<r then a else if i<r then a else i)=if a<q then a else i:=by
  intro a ha;by_cases h1:a<q;rw[Gx h1,Gx Gk];rw[Gw h1];by_cases h2:i<r;rw[Gx Gk];omega;rw[Gw Gk,Gw h2]
 rw[<- Za7 (M:=λa b=>G (if a<r then a else if i<r then a else i) (if b<q then pc b else j)) (N:=λa b=>G (if a<q then a else i) (if b<q then pc b else j)) (λa b ha hb=>by rw[hσ a ha])];rw[<- hd,Zkg]
 ·rw[Za9]
  unfold Zer;congr 1
  ·refine Zda λa ha=>?_
   rw[Gx ha,Gx Gk]
  rw[Gw (QN q)];have:=hσ q (Yh q);rw[Gw (QN q)]at this;rw[this]
 intro a b ha hb;rw[Gx (by omega:b<q),hσ a ha];by_cases h1:a<q;rw[Gx h1,h.bef a (pc b) Gk (h.inc b a hb Gk)];grind;rw[Gw h1];by_cases h2:i<r;rw[h.bef i (pc b) h2 (h.inc b i Gk h2)];grind;rw[h.low i (pc b) Gk hi (h.pcl b Gk)];grind
theorem EIR.minor(h:EIR B S n m col r R pc G s){i:Nat}(hi:i<n)(j:Nat):BndQ (Zbo B (min i r+1)) (Zer R pc s (min i r)*(s i*Zh R i j)):=by
 rw[h.minor_eq hi j];refine Zhv λa b ha hb=>h.gB _ _ ?_
 split <;> omega
theorem EIR.piv_ne(h:EIR B S n m col r R pc G s){l:Nat}(hl:l<=r):Zer R pc s l≠0:=by
 induction l with
 | zero=>unfold Zer Za9;grind
 | succ l ih =>
  have h1:=ih Gk;have h2:=h.piv l Gk;have h3:=(h.sB l (by have:=h.rn;omega)).2;unfold Zer at h1 ⊢;rw[Za9];intro h0;rcases Rat.mul_eq_zero.1 h0 with h0|h0;exact h1 h0;rcases Rat.mul_eq_zero.1 h0 with h0|h0;exact h3 h0;exact h2 h0
theorem EIR.pivL_bnd(h:EIR B S n m col r R pc G s){l:Nat}(hl:l<=r):BndQ (Zbo B l) (Zer R pc s l):=by
 cases l with
 | zero=>exact⟨1,rfl,by simp[Zbo]⟩
 | succ l =>
  have h1:=h.minor (i:=l) (by have:=h.rn;omega) (pc l);rw[show min l r=l by omega]at h1;unfold Zer at h1 ⊢;rw[Za9];exact h1
theorem FI{G:Prop}(h:G:=by
 refine Nat.le_trans (Nat.div_le_self _ _) ?_;rw[Int.natAbs_mul];rcases Int.lt_or_gt_of_ne h with g|g;rw[Int.sign_eq_neg_one_of_neg g];simp;rw[Int.sign_eq_one_of_pos g];simp):G:=h
theorem numQ_le(a b:Int)(h:b≠0):(Qu a b).num.natAbs<=a.natAbs:=by
 rw[Rat.num_divInt,QW];exact FI;exact Int.dvd_trans (Ye _ _) (Yi _ _)
theorem Ze2{B C:Nat}{p q:Rat}(h:BndQ B (q*p))(k:BndQ C q)(hq:q≠0):p.num.natAbs<=B/\p.den<=C:=by
 obtain⟨a,h1,h2⟩:=h;obtain⟨b,h3,h4⟩:=k;have hb:b≠0:=by rintro rfl;rw[h3]at hq;exact hq rfl
 have hp:p=Qu a b:=by
  rw[QG,<- h1,h3];have:(b:Rat)≠0:=by rw[<- h3];exact hq
  grind
 rw[hp];constructor;exact Ql (numQ_le a b hb) h2;rw[Rat.den_divInt,Gw hb];exact Ql (QU _ _) h4
theorem EIR.bound(h:EIR B S n m col r R pc G s)(hB:1<=B){i:Nat}(hi:i<n)(j:Nat):(Zh R i j).num.natAbs<=Zbo B n/\(Zh R i j).den<=Zbo B n*S:=by
 have h1:=h.minor hi j;have h2:=h.pivL_bnd (l:=min i r) Gk;have h3:=h.sB i hi;have h4:=h.piv_ne (l:=min i r) Gk;rw[<- Rat.mul_assoc]at h1
 have h5:=Ze2 h1 (h2.mul h3.1) (λh0=>by
  rcases Rat.mul_eq_zero.1 h0 with h0|h0;exact h4 h0;exact h3.2 h0)
 have h6:=Zc3 hB (show min i r+1<=n by omega);have h7:=Zc3 hB (show min i r<=n by omega);exact⟨by omega,Ql h5.2 (Qp h7 (Qa _))⟩
theorem Zin{k r:Nat}(hk:k<R.length)(hr:r<R.length)(i j:Nat):Zh (Zaj R k r) i j=Zh R (swI k r i) j:=by
 unfold Zh;rw[Zdu hk hr]
theorem Zm1{k r i:Nat}(hk:r<=k)(hi:i<r):swI k r i=i:=by unfold swI;rw[Gw Gk,Gw Gk]
theorem Zrv{k r i:Nat}(hk:r<=k)(hi:r<=i):r<=swI k r i:=by unfold swI;split <;> (try split) <;> omega
theorem EIR.skip(h:EIR B S n m col r R pc G s)(hc:col<m)(hz:∀ i,r<=i->i<n->Zh R i col=0):EIR B S n m (col+1) r R pc G s:=
 { h with
  pcl:=λl hl=>by have:=h.pcl l hl;omega
  cm:=hc
  low:=λi j hi hn hj=>by
   by_cases hjc:j=col;rw[hjc];exact hz i hi hn;exact h.low i j hi hn Gk }
theorem EIR.swap(h:EIR B S n m col r R pc G s){k:Nat}(hk:k<n)(hrk:r<=k):EIR B S n m col r (Zaj R k r) pc (λi j=>G (swI k r i) j) (λi=>s (swI k r i)):=by
 have hr:r<n:=Gk;have hl:=h.len;have he:∀ i j,Zh (Zaj R k r) i j=Zh R (swI k r i) j:=Zin Gk Gk;have e:∀ {i},i<n->swI k r i<n:=λhi=>Zh5 hk hr hi;refine⟨by rw[Zeg];exact hl,λi hi=>by rw[Zdu Gk Gk];exact h.row _ (e hi),h.pcl,h.inc,λi j hi hn hj=>?_,λl j hl' hj=>?_,λl hl'=>?_,h.rn,h.cm,λi hi=>h.sB _ (e hi),λi j hi=>h.gB _ _ (e hi),λN f σ h1 h2 h3=>?_⟩;rw[he];exact h.low _ _ (Zrv hrk hi) (e hn) hj;rw[he,Zm1 hrk hl'];exact h.bef l j hl' hj;rw[he,Zm1 hrk hl'];exact h.piv l hl';have:=h.det N f (λa=>swI k r (σ a)) (λa ha=>e (h1 a ha)) (λa ha=>by rw[h2 a ha,Zm1 hrk ha]) (λa ha=>Zrv hrk (h3 a ha));rw[<- this];exact Za7 λa b _ _=>by rw[he]
theorem Zg1(hrow:∀ i,i<R.length->(R[i]?.getD []).length=m)(hlow:∀ j,j<col->Zh R r j=0)(i j:Nat)(hi:i<R.length)(hr:r<R.length) :
    Zh (Zbr R r col) i j=if i<=r then Zh R i j else Zh R i j-Zh R i col/Zh R r col*Zh R r j:=by
 unfold Zbr;show ((List.map _ (Qt R.length))[i]?.getD [])[j]?.getD 0=_;rw[Qd,Qi hi];simp only[Qk,Qg];by_cases h1:i<=r;rw[Gx h1,Gx h1];rfl;rw[Gw h1,Gw h1];unfold Zot;rw[Qd];by_cases hj:j<(R[i]?.getD []).length
 ·rw[Qi hj]
  simp only[Qk,Qg];by_cases hjc:j<col
  ·rw[Gx hjc,hlow j hjc]
   show Zh R i j=_
   grind
  rw[Gw hjc];rfl
 rw[Qe (l:=Qt _) (by simpa using hj)];simp only[QV,QR];have e1:Zh R i j=0:=by unfold Zh;rw[Qe Gk];rfl
 have e2:Zh R r j=0:=by unfold Zh;rw[Qe (by rw[hrow i hi]at hj;rw[hrow r hr];omega)];rfl
 rw[e1,e2];grind
theorem Ze9:(Zbr R r col).length=R.length:=by unfold Zbr;simp
theorem Znq(i:Nat)(hi:i<R.length):((Zbr R r col)[i]?.getD []).length=(R[i]?.getD []).length:=by
 unfold Zbr;rw[Qd,Qi hi];simp only[Qk,Qg]
 split
 rfl;unfold Zot;simp
theorem EIR.clear(h:EIR B S n m col r R pc G s)(hc:col<m)(hr:r<n)(hp:Zh R r col≠0):EIR B S n m (col+1) (r+1) (Zbr R r col) (λl=>if l=r then col else pc l) G s:=by
 have hl:=h.len
 have he:∀ i j,i<n->Zh (Zbr R r col) i j=if i<=r then Zh R i j else Zh R i j-Zh R i col/Zh R r col*Zh R r j:=
  λi j hi=>Zg1 (m:=m) (λi hi=>h.row i Gk) (λj hj=>h.low r j (Qa _) hr hj) i j Gk Gk
 refine⟨by rw[Ze9];exact hl,λi hi=>by rw[Znq i Gk];exact h.row i hi,λl hl'=>?_,λl l' h1 h2=>?_,λi j hi hn hj=>?_,λl j hl' hj=>?_,λl hl'=>?_,hr,hc,h.sB,h.gB,λN f σ h1 h2 h3=>?_⟩
 ·split
  omega;have:=h.pcl l Gk;omega
 ·rw[Gw (by omega:¬ l=r)]
  split
  exact h.pcl l Gk;exact h.inc l l' h1 Gk
 ·rw[he i j hn,Gw Gk]
  by_cases hjc:j=col;rw[hjc];grind;rw[h.low i j Gk hn Gk,h.low r j (Qa _) hr Gk];grind
 ·rw[he l j Gk,Gx Gk]
  by_cases hlr:l=r
  ·rw[hlr];simp only[hlr,if_true]at hj
   exact h.low r j (Qa _) hr hj
  simp only[Gw hlr]at hj;exact h.bef l j Gk hj
 ·rw[he l _ Gk,Gx Gk]
  by_cases hlr:l=r;simp only[hlr,if_true];exact hp;simp only[Gw hlr];exact h.piv l Gk
 rw[<- h.det N f σ h1 (λa ha=>h2 a (by omega)) (λa ha=>by
   by_cases har:a=r;rw[har,h2 r Gk];exact Qa _;have:=h3 a Gk;omega)]
 by_cases hN:N<=r
 ·refine Za7 λa b ha hb=>?_
  rw[he _ _ (h1 a ha),Gx];rw[h2 a Gk];omega
 have hσr:σ r=r:=h2 r Gk;rw[<- Zn3 (λa b=>s (σ a)*Zh R (σ a) (f b)) (l:=r) (n:=N) Gk (λa=>if a<=r then 0 else-(s (σ a)*Zh R (σ a) col/(s r*Zh R r col)))];refine Za7 λa b ha hb=>?_;rw[he _ _ (h1 a ha)];by_cases har:a<=r
 ·rw[h2 a Gk,Gx har]
  simp only[Gx har]
  split
  rfl
  grind
 have:=h3 a Gk;rw[Gw Gk,Gw Gk,Gw har,hσr];have hs:=(h.sB r hr).2
 grind
structure EIZ (n m r:Nat) (R:List (List Rat)) (pc:Nat->Nat) (s:Nat->Rat) (Z:List (List Int)) (last:Int):Prop where
 len:Z.length=n
 row:∀ i,i<n->(Z[i]?.getD []).length=m
 last:(last:Rat)=Zer R pc s r
 ent:∀ i j,i<n->(Zah Z i j:Rat)=Zer R pc s (min i r)*(s i*Zh R i j)
theorem Zn6{R':List (List Rat)}{pc':Nat->Nat}{s':Nat->Rat}{l:Nat}(h:∀ i,i<l->s i*Zh R i (pc i)=s' i*Zh R' i (pc' i)):Zer R pc s l=Zer R' pc' s' l:=Zda h
theorem Zgv{a b:Int}(h:(a:Rat)=(b:Rat)):a=b:=by exact_mod_cast h
theorem EIZ.last_ne{Z:List (List Int)}{last:Int}(h:EIR B S n m col r R pc G s)(k:EIZ n m r R pc s Z last):last≠0:=by
 rintro rfl;exact h.piv_ne (Qa r) (k.last.symm.trans rfl)
theorem EIZ.last_bnd{Z:List (List Int)}{last:Int}(h:EIR B S n m col r R pc G s)(k:EIZ n m r R pc s Z last)(hB:1<=B):last.natAbs<=Zbo B n:=by
 obtain⟨z,h1,h2⟩:=h.pivL_bnd (Qa r);rw[<- k.last]at h1;rw[Zgv h1];exact Ql h2 (Zc3 hB h.rn)
theorem EIZ.bnd{Z:List (List Int)}{last:Int}(h:EIR B S n m col r R pc G s)(k:EIZ n m r R pc s Z last)(hB:1<=B){i:Nat}(hi:i<n)(j:Nat):(Zah Z i j).natAbs<=Zbo B n:=by
 obtain⟨z,h1,h2⟩:=h.minor hi j;rw[<- k.ent i j hi]at h1;rw[Zgv h1];exact Ql h2 (Zc3 hB Gk)
theorem EIZ.zero{Z:List (List Int)}{last:Int}(h:EIR B S n m col r R pc G s)(k:EIZ n m r R pc s Z last){i:Nat}(hi:i<n)(j:Nat):(Zah Z i j == 0)=(Zh R i j == 0):=by
 have h1:=k.ent i j hi;have h2:=h.piv_ne (l:=min i r) Gk;have h3:=(h.sB i hi).2;by_cases h0:Zh R i j=0
 ·rw[h0]at h1 ⊢
  have:Zah Z i j=0:=Zgv (by rw[h1];grind);rw[this];rfl
 have:Zah Z i j≠0:=by
   intro hz;rw[hz]at h1;rcases Rat.mul_eq_zero.1 h1.symm with h4|h4;exact h2 h4;rcases Rat.mul_eq_zero.1 h4 with h4|h4;exact h3 h4;exact h0 h4
 rw[beq_eq_false_iff_ne.2 this,beq_eq_false_iff_ne.2 h0]
theorem Zif{Z:List (List Int)}{k r:Nat}(hk:k<Z.length)(hr:r<Z.length)(i j:Nat):Zah (Zaj Z k r) i j=Zah Z (swI k r i) j:=by
 unfold Zah;rw[Zdu hk hr]
theorem EIZ.swap{Z:List (List Int)}{last:Int}(h:EIR B S n m col r R pc G s)(q:EIZ n m r R pc s Z last){k:Nat}(hk:k<n)(hrk:r<=k):EIZ n m r (Zaj R k r) pc (λi=>s (swI k r i)) (Zaj Z k r) last:=by
 have hr:r<n:=Gk;have hl:=h.len;have e:=q.len;have he:∀ i j,Zh (Zaj R k r) i j=Zh R (swI k r i) j:=Zin Gk Gk;have hp:∀ l,l<=r->Zer (Zaj R k r) pc (λi=>s (swI k r i)) l=Zer R pc s l:=λl hl=>Zn6 λi hi=>by rw[he,Zm1 hrk Gk]
 refine⟨by rw[Zeg];exact e,λi hi=>by rw[Zdu Gk Gk];exact q.row _ (Zh5 hk hr hi),?_,λi j hi=>?_⟩;rw[hp r (Qa r)];exact q.last;rw[hp _ Gk,he,Zif Gk Gk,q.ent _ j (Zh5 hk hr hi)]
 have:min (swI k r i) r=min i r:=by
  by_cases hir:i<r;rw[Zm1 hrk hir];have:=Zrv (i:=i) hrk Gk;omega
 rw[this]
theorem Zvx{Z:List (List Int)}{last:Int}(hrow:∀ i,i<Z.length->(Z[i]?.getD []).length=m)(i j:Nat)(hi:i<Z.length) :
    Zah (Zdq Z r col last) i j=if i<=r then Zah Z i j else if j<m then Int.fdiv (Zah Z i j*Zah Z r col-Zah Z i col*Zah Z r j) last else 0:=by
 unfold Zdq;show ((List.map _ (Qt Z.length))[i]?.getD [])[j]?.getD 0=_;rw[Qd,Qi hi];simp only[Qk,Qg];by_cases h1:i<=r;rw[Gx h1,Gx h1];rfl;rw[Gw h1,Gw h1];unfold Zsm;rw[Qd];by_cases hj:j<(Z[i]?.getD []).length;rw[Qi hj,Gx (by rw[hrow i hi]at hj;exact hj)];rfl;rw[Qe (l:=Qt _) (by simpa using hj),Gw (by rw[hrow i hi]at hj;exact hj)];rfl
theorem Zja{Z:List (List Int)}{last:Int}:(Zdq Z r col last).length=Z.length:=by unfold Zdq;simp
theorem Zwm{Z:List (List Int)}{last:Int}(i:Nat)(hi:i<Z.length):((Zdq Z r col last)[i]?.getD []).length=(Z[i]?.getD []).length:=by
 unfold Zdq;rw[Qd,Qi hi];simp only[Qk,Qg]
 split
 rfl;unfold Zsm;simp
theorem Zs6(hrow:∀ i,i<n->(R[i]?.getD []).length=m){i j:Nat}(hi:i<n)(hj:m<=j):Zh R i j=0:=by
 unfold Zh;rw[Qe (by rw[hrow i hi];exact hj)];rfl
theorem EIZ.clear{Z:List (List Int)}{last:Int}(h:EIR B S n m col r R pc G s)(q:EIZ n m r R pc s Z last)(hc:col<m)(hr:r<n)(hp:Zh R r col≠0) :
    EIZ n m (r+1) (Zbr R r col) (λl=>if l=r then col else pc l) s (Zdq Z r col last) (Zah Z r col):=by
 have hl:=h.len;have C:=q.len;have h':=h.clear hc hr hp
 have he:∀ i j,i<n->Zh (Zbr R r col) i j=if i<=r then Zh R i j else Zh R i j-Zh R i col/Zh R r col*Zh R r j:=
  λi j hi=>Zg1 (m:=m) (λi hi=>h.row i Gk) (λj hj=>h.low r j (Qa _) hr hj) i j Gk Gk
 have u:∀ l,l<=r->Zer (Zbr R r col) (λl=>if l=r then col else pc l) s l=Zer R pc s l:=λl hl=>Zn6 λi hi=>by
  rw[he _ _ Gk,Gx Gk,Gw Gk]
 have e:Zer (Zbr R r col) (λl=>if l=r then col else pc l) s (r+1)=Zer R pc s r*(s r*Zh R r col):=by
  rw[Zer,Za9];have:=u r (Qa r);unfold Zer at this;rw[this,he _ _ hr,Gx (Qa r),Gx rfl];rfl
 refine⟨by rw[Zja];exact C,λi hi=>by rw[Zwm i Gk];exact q.row i hi,?_,λi j hi=>?_⟩;rw[e,q.ent r col hr,show min r r=r by omega];rw[Zvx (m:=m) (λi hi=>q.row i Gk) i j Gk];by_cases hir:i<=r;rw[Gx hir,u _ Gk,he _ _ hi,Gx hir,q.ent i j hi,show min i (r+1)=min i r by omega];rw[Gw hir];by_cases hj:j<m
 ·rw[Gx hj]
  obtain⟨z,f,-⟩:=h'.minor hi j;rw[show min i (r+1)=r+1 by omega,e,he _ _ hi,Gw hir]at f;have y:=q.last_ne h;have e1:=q.ent i j hi;have e2:=q.ent r col hr;have e3:=q.ent i col hi;have e4:=q.ent r j hr;have e5:=q.last;rw[show min i r=r by omega]at e1 e3;rw[show min r r=r by omega]at e2 e4
  have o:Zah Z i j*Zah Z r col-Zah Z i col*Zah Z r j=last*z:=Zgv (by
   rw[Yk,Qr,Qr,Qr,e1,e2,e3,e4,e5,<- f]
   grind)
  rw[o,Int.mul_comm,Int.mul_fdiv_cancel _ y,<- f,show min i (r+1)=r+1 by omega,e,he _ _ hi,Gw hir]
 rw[Gw hj,Zs6 (n:=n) h'.row hi Gk];have:((0:Int):Rat)=0:=rfl;rw[this];grind
end
def BdZ(C m:Nat)(Z:List (List Int)):Prop:=(∀ i,i<Z.length->(Z[i]?.getD []).length=m)/\∀ i j,(Zah Z i j).natAbs<C
def BdR(C D m:Nat)(R:List (List Rat)):Prop:=(∀ i,i<R.length->(R[i]?.getD []).length=m)/\∀ i j,(Zh R i j).num.natAbs<C/\(Zh R i j).den<D
def okZ(C m:Nat):Nat->Nat->Nat->List (List Int)->Int->Prop
 | 0,_,_,Z,last=>BdZ C m Z/\last≠0/\last.natAbs<C
 | f+1,col,r,Z,last=>BdZ C m Z/\(last≠0/\last.natAbs<C)/\(r=Z.length \/
     (Zbp (λi=>Zah Z i col == 0) Z.length Z.length r=Z.length->okZ C m f (col+1) r Z last) /\
     (Zbp (λi=>Zah Z i col == 0) Z.length Z.length r≠Z.length->okZ C m f (col+1) (r+1) (Zdq (Zaj Z (Zbp (λi=>Zah Z i col == 0) Z.length Z.length r) r) r col last) (Zah Z (Zbp (λi=>Zah Z i col == 0) Z.length Z.length r) col)))
def okR(C D m:Nat):Nat->Nat->Nat->List (List Rat)->Prop
 | 0,_,_,R=>BdR C D m R
 | f+1,col,r,R=>BdR C D m R/\(r=R.length \/
     (Zbp (λi=>Zh R i col == 0) R.length R.length r=R.length->okR C D m f (col+1) r R) /\
     (Zbp (λi=>Zh R i col == 0) R.length R.length r≠R.length->okR C D m f (col+1) (r+1) (Zbr (Zaj R (Zbp (λi=>Zh R i col == 0) R.length R.length r) r) r col)))
def sgB(b:Bool):Rat:=if b then -1 else 1
theorem Zy9{n k r:Nat}(f:Nat->Rat)(hk:k<n)(hr:r<n):Za9 n (λi=>f (swI k r i))=Za9 n f:=by
 by_cases e:k=r
 ·subst e;refine Zda λi _=>?_
  unfold swI;split;rename_i h;rw[h];rfl
 have key:∀ n (f:Nat->Rat) k r,k<r->r<n->Za9 n (λi=>f (swI k r i))=Za9 n f:=by
   intro n
   induction n with
   | zero=>intro f k r _ h;omega
   | succ n ih =>
    intro f k r e hr;by_cases hrn:r=n
    ·subst hrn
     have o:∀ (m:Nat) (g h:Nat->Rat),k<m->(∀ i,i<m->i≠k->g i=h i)->Za9 m g*h k=Za9 m h*g k:=by
      intro m
      induction m with
      | zero=>intro g h hk _;omega
      | succ m ihm =>
       intro g h hk he;simp only[Za9];by_cases hkm:k=m
       ·subst hkm
        rw[Zda (f:=g) (g:=h) (λi hi=>he i Gk Gk)];grind
       have:=ihm g h Gk (λi hi=>he i Gk);rw[he m Gk Gk];grind
     simp only[Za9];have e1:swI k r r=k:=by unfold swI;rw[Gw Gk,Gx rfl]
     have e2:swI k r k=r:=by unfold swI;rw[Gx rfl]
     have:=o r (λi=>f (swI k r i)) f e (λi hi hik=>by unfold swI;rw[Gw hik,Gw Gk]);simp only[e2]at this;rw[e1];exact this
    simp only[Za9];rw[ih f k r e Gk];have:swI k r n=n:=by unfold swI;rw[Gw Gk,Gw Gk]
    rw[this]
 rcases QZ e with h|h;exact key n f k r h hr;have:∀ i,swI k r i=swI r k i:=λi=>by unfold swI;split <;> split <;> omega
 rw[<- key n f r k h hk];exact Zda λi _=>by rw[this]
theorem Z2o{n k r:Nat}(M:Nat->Nat->Rat)(hk:k<n)(hr:r<n):Zay n (λa b=>M (swI k r a) b)=if k=r then Zay n M else-Zay n M:=by
 by_cases hkr:k=r
 ·subst hkr
  rw[Gx rfl];refine Za7 λa b _ _=>?_;unfold swI;split;rename_i h;rw[h];rfl
 rw[Gw hkr,<- Zzu M hk hr hkr];congr 1
 funext a b
 unfold swI Zak;by_cases h1:a=k;subst h1;rw[Gx rfl,Gw hkr,Gx rfl];rw[Gw h1];by_cases h2:a=r;rw[Gx h2,Gx h2];rw[Gw h2,Gw h2,Gw h1]
theorem EIR.bdR{B S n m col r:Nat}{R:List (List Rat)}{pc:Nat->Nat}{G:Nat->Nat->Rat}{s:Nat->Rat}(h:EIR B S n m col r R pc G s)(hB:1<=B)(hS:1<=S):BdR (Zbo B n+1) (Zbo B n*S+1) m R:=by
 have hl:=h.len;refine⟨λi hi=>h.row i Gk,λi j=>?_⟩;by_cases hi:i<n;have:=h.bound hB hi j;omega;have:Zh R i j=0:=by unfold Zh;rw[Qe (l:=R) Gk];rfl
 have h1:1<=Zbo B n:=Zc3 (m:=0) hB Gk;have h2:1*1<=Zbo B n*S:=Qp h1 hS;rw[this];refine⟨by simp,?_⟩;rw[show (0:Rat).den=1 from rfl];omega
theorem EIZ.bdZ{B S n m col r:Nat}{R:List (List Rat)}{pc:Nat->Nat}{G:Nat->Nat->Rat}{s:Nat->Rat}{Z:List (List Int)}{last:Int}(h:EIR B S n m col r R pc G s)(k:EIZ n m r R pc s Z last)(hB:1<=B):BdZ (Zbo B n+1) m Z:=by
 have hl:=k.len;refine⟨λi hi=>k.row i Gk,λi j=>?_⟩;by_cases hi:i<n;have:=k.bnd h hB hi j;omega;have:Zah Z i j=0:=by unfold Zah;rw[Qe (l:=Z) Gk];rfl
 rw[this];simp
theorem Zld{B S n m:Nat}(hB:1<=B)(hS:1<=S):∀ (f col r:Nat) (R:List (List Rat)) (pc:Nat->Nat) (G:Nat->Nat->Rat) (s:Nat->Rat) (Z:List (List Int)) (neg:Bool) (last:Int),
    EIR B S n m col r R pc G s->EIZ n m r R pc s Z last->col+f<=m ->
    okZ (Zbo B n+1) m f col r Z last/\okR (Zbo B n+1) (Zbo B n*S+1) m f col r R /\
    (Zar f col r Z neg last).2.1=(Zbh f col r R neg).2.1/\(Zar f col r Z neg last).2.2.1=(Zbh f col r R neg).2.2 /\
    ∃ e u G' s',EIR B S n m e (Zbh f col r R neg).2.1 (Zbh f col r R neg).1 u G' s'/\EIZ n m (Zbh f col r R neg).2.1 (Zbh f col r R neg).1 u s' (Zar f col r Z neg last).1 (Zar f col r Z neg last).2.2.2 /\
     (e=col+f \/ (Zbh f col r R neg).2.1=n/\e<=col+f)/\Za9 n s'=Za9 n s/\(∀ φ:Nat->Nat,sgB (Zbh f col r R neg).2.2*Zay n (λa b=>G' a (φ b))=sgB neg*Zay n (λa b=>G a (φ b)))
 | 0,col,r,R,pc,G,s,Z,neg,last,h,k,hm=>by
  have h1:=k.last_bnd h hB;exact⟨⟨k.bdZ h hB,k.last_ne h,by omega⟩,h.bdR hB hS,rfl,rfl,col,pc,G,s,h,k,.inl rfl,rfl,λφ=>rfl⟩
 | f+1,col,r,R,pc,G,s,Z,neg,last,h,k,hm=>by
  have y:=h.len;have T:=k.len;have h1:=k.last_bnd h hB;have U:=h.rn
  have C:Zbp (λi=>Zah Z i col == 0) Z.length Z.length r=Zbp (λi=>Zh R i col == 0) R.length R.length r:=by
   rw[y,T];exact Zsy Gk U (λi h1 h2=>k.zero h h2 col)
  unfold Zar Zbh okZ okR;simp only[C];rw[y]at C ⊢;simp only[T];by_cases hr:r=n
  ·simp only[Gx hr]
   exact⟨⟨k.bdZ h hB,⟨k.last_ne h,by omega⟩,.inl hr⟩,⟨h.bdR hB hS,.inl hr⟩,(by trivial),(by trivial),col,pc,G,s,h,k,.inr ⟨hr,by omega⟩,rfl,λφ=>rfl⟩
  simp only[Gw hr];obtain⟨q,hq⟩:∃ q,Zbp (λi=>Zh R i col == 0) n n r=q:=⟨_,rfl⟩;obtain⟨p1,p2,p3,p4⟩:=Zfd (z:=λi=>Zh R i col == 0) (n:=n) (f:=n) (k:=r) Gk Gk;rw[hq]at p1 p2 p3 p4;simp only[hq];by_cases hqn:q=n
  ·simp only[Gx hqn]
   have hz:∀ i,r<=i->i<n->Zh R i col=0:=λi h1 h2=>by simpa using p3 i h1 Gk
   obtain⟨o1,o2,o3,o4,e,u,G',s',o5,o6,o7,o8,o9⟩:=Zld hB hS f (col+1) r R pc G s Z neg last (h.skip Gk hz) k Gk;exact⟨⟨k.bdZ h hB,⟨k.last_ne h,by omega⟩,.inr ⟨λ_=>o1,λhn=>absurd hqn hn⟩⟩,⟨h.bdR hB hS,.inr ⟨λ_=>o2,λhn=>absurd hqn hn⟩⟩,o3,o4,e,u,G',s',o5,o6,by omega,o8,o9⟩
  simp only[Gw hqn];have o:q<n:=Gk;have J:Zh R q col≠0:=by simpa using p4 o
  have O:=h.swap o p1;have ksw:=k.swap h o p1
  have I:Zh (Zaj R q r) r col=Zh R q col:=by
   rw[Zin Gk Gk];congr 1;unfold swI;split;rename_i h;exact h;rw[Gx rfl]
  have V:Zah (Zaj Z q r) r col=Zah Z q col:=by
   rw[Zif Gk Gk];congr 1;unfold swI;split;rename_i h;exact h;rw[Gx rfl]
  have Y:=O.clear Gk Gk (by rw[I];exact J);have kcl:=ksw.clear O Gk Gk (by rw[I];exact J);rw[V]at kcl;obtain⟨o1,o2,o3,o4,e,u,G',s',o5,o6,o7,o8,o9⟩:=Zld hB hS f (col+1) (r+1) _ _ _ _ _ (neg != decide (q≠r)) _ Y kcl Gk;refine⟨⟨k.bdZ h hB,⟨k.last_ne h,by omega⟩,.inr ⟨λhn=>absurd hn hqn,λ_=>o1⟩⟩,⟨h.bdR hB hS,.inr ⟨λhn=>absurd hn hqn,λ_=>o2⟩⟩,o3,o4,e,u,G',s',o5,o6,by omega,?_,λφ=>?_⟩;rw[o8,Zy9 s o Gk];rw[o9,Z2o (λa b=>G a (φ b)) o Gk];by_cases hqr:q=r
  ·rw[Gx hqr]
   have:decide (q≠r)=false:=by simp[hqr]
   rw[this];cases neg <;> rfl
  rw[Gw hqr];have:decide (q≠r)=true:=by simp[hqr]
  rw[this];cases neg <;> simp[sgB] <;> grind
def denTo(row:List Rat):Nat->Nat
 | 0=>1
 | k+1=>denTo row k*((row[k]?.getD 0).den/QP (denTo row k) (row[k]?.getD 0).den)
def Zd4(row:List Rat):List Int:=row.map λf=>f.num*((denTo row row.length/f.den:Nat):Int)
def Z6(R:List (List Rat)):List (List Int):=R.map Zd4
def denAt(R:List (List Rat))(i:Nat):Nat:=denTo (R[i]?.getD []) (R[i]?.getD []).length
theorem Zds(row:List Rat)(k:Nat):0<denTo row k:=by
 induction k with
 | zero=>exact Nat.one_pos
 | succ k ih =>
  refine Nat.mul_pos ih (Nat.div_pos (Nat.le_of_dvd (Rat.den_pos _) (QO _ _)) (QT _ ih))
theorem Zns(row:List Rat)(k:Nat):denTo row k ∣ denTo row (k+1)/\(row[k]?.getD 0).den ∣ denTo row (k+1):=by
 refine⟨⟨_,rfl⟩,?_⟩;obtain⟨c,hc⟩:=Nat.gcd_dvd_left (denTo row k) (row[k]?.getD 0).den;refine⟨c,?_⟩;simp only[denTo];obtain⟨d,hd⟩:=QO (denTo row k) (row[k]?.getD 0).den;have hg:0<QP (denTo row k) (row[k]?.getD 0).den:=QT _ (Zds row k)
 have e:(row[k]?.getD 0).den/QP (denTo row k) (row[k]?.getD 0).den=d:=by
  rw[Nat.div_eq_iff_eq_mul_left hg (QO _ _),Nat.mul_comm];exact hd
 rw[e]
 calc denTo row k*d=(QP (denTo row k) (row[k]?.getD 0).den*c)*d:=by rw[<- hc]
  _=(QP (denTo row k) (row[k]?.getD 0).den*d)*c:=by rw[Nat.mul_assoc,Nat.mul_assoc,Nat.mul_comm c d]
  _=(row[k]?.getD 0).den*c:=by rw[<- hd]
theorem Zgn(row:List Rat){j:Nat}:∀ {k:Nat},j<k->(row[j]?.getD 0).den ∣ denTo row k
 | 0,h=>by omega
 | k+1,h=>by
  by_cases hj:j=k;rw[hj];exact(Zns row k).2;exact Nat.dvd_trans (Zgn row (j:=j) (k:=k) Gk) (Zns row k).1
theorem Zsg(row:List Rat){D:Nat}(h:∀ j:Nat,(row[j]?.getD 0).den<=D)(k:Nat):denTo row k<=D^k:=by
 induction k with
 | zero=>exact Qa _
 | succ k ih =>
  rw[Nat.pow_succ];exact Qp ih (Ql (QU _ _) (h k))
theorem Zku(row:List Rat):(Zd4 row).length=row.length:=by unfold Zd4;simp
theorem Zrq(row:List Rat)(j:Nat):(((Zd4 row)[j]?.getD 0:Int):Rat)=(denTo row row.length:Nat)*row[j]?.getD 0:=by
 unfold Zd4;rw[Qd];by_cases hj:j<row.length
 ·rw[Qb hj]
  simp only[Qk,Qg];have hd:=Zgn row hj;rw[Qb hj]at hd;simp only[Qg]at hd;obtain⟨c,hc⟩:=hd;rw[hc,Nat.mul_div_cancel_left _ (Rat.den_pos _),Qr,Qo,Yl];have e0:((row[j].num:Int):Rat)/((row[j].den:Nat):Rat)=row[j]:=by have:=Ya row[j];rw[QG,Qo]at this;exact this
  have e1:((row[j].den:Nat):Rat)≠0:=by
   intro h;have:row[j].den=0:=by exact_mod_cast h
   have:=row[j].den_pos;omega
  have e2:((row[j].num:Int):Rat)=row[j]*((row[j].den:Nat):Rat):=by rw[<- e0];grind
  rw[e2];grind
 rw[Qe Gk];simp only[QV,QR];have:((0:Int):Rat)=0:=rfl;rw[this];grind
theorem Zgz(R:List (List Rat))(i j:Nat):((Zah (Z6 R) i j:Int):Rat)=(denAt R i:Nat)*Zh R i j:=by
 unfold Zah Z6 Zh denAt;rw[Qd];cases h:R[i]? with
 | none=>simp only[Option.map_none,Option.getD_none,List.getElem?_nil];have:((0:Int):Rat)=0:=rfl
         rw[this];grind
 | some row=>simp only[Qk,Qg];exact Zrq row j
theorem Znz{B S n m:Nat}(R:List (List Rat))(hl:R.length=n)(hrow:∀ i,i<n->(R[i]?.getD []).length=m)(hS:∀ i,i<n->denAt R i<=S)(hBd:∀ i j,i<n->(Zah (Z6 R) i j).natAbs<=B) :
    EIR B S n m 0 0 R (λ_=>0) (λi j=>(denAt R i:Nat)*Zh R i j) (λi=>(denAt R i:Nat))/\EIZ n m 0 R (λ_=>0) (λi=>(denAt R i:Nat)) (Z6 R) 1:=by
 refine⟨⟨hl,hrow,λl h=>by omega,λl l' _ h=>by omega,λi j _ _ h=>by omega,λl j h=>by omega,λl h=>by omega,Qw _,Qw _,λi hi=>⟨⟨(denAt R i:Nat),by rw[Qo],by rw[Qz];exact hS i hi⟩,λh0=>?_⟩,λi j hi=>⟨_,(Zgz R i j).symm,hBd i j hi⟩,λN f σ _ _ _=>rfl⟩,⟨by unfold Z6;simp[hl],λi hi=>?_,rfl,λi j hi=>?_⟩⟩
 ·have:denAt R i=0:=by exact_mod_cast h0
  have:=Zds (R[i]?.getD []) (R[i]?.getD []).length;unfold denAt at *;omega
 ·unfold Z6
  rw[Qd,Qb Gk];simp only[Qk,Qg];rw[Zku];have:=hrow i hi;rw[Qb Gk]at this;exact this
 rw[Zgz];have:Zer R (λ_=>0) (λi=>((denAt R i:Nat):Rat)) (min i 0)=1:=by rw[show min i 0=0 by omega];rfl
 rw[this];grind
def byZ(R:List (List Rat)):Nat->Nat
 | 0=>1
 | k+1=>byZ R k*denAt R k
theorem Z2l(R:List (List Rat))(k:Nat):((byZ R k:Nat):Rat)=Za9 k (λi=>((denAt R i:Nat):Rat)):=by
 induction k with
 | zero=>rfl
 | succ k ih=>simp only[byZ,Za9];rw[Yl,ih]
theorem Zxi(R:List (List Rat))(k:Nat):0<byZ R k:=by
 induction k with
 | zero=>exact Nat.one_pos
 | succ k ih=>exact Nat.mul_pos ih (Zds _ _)
theorem Zwb{n:Nat}{f:Nat->Rat}{k:Nat}(hk:k<n)(h:f k=0):Za9 n f=0:=by
 induction n with
 | zero=>omega
 | succ n ih =>
  simp only[Za9];by_cases hkn:k=n;rw[<- hkn,h];grind;rw[ih Gk];grind
theorem Zu8{n:Nat}(M:Nat->Nat->Rat)(s:Nat->Rat):Zay n (λa b=>s a*M a b)=Za9 n s*Zay n M:=by
 have key:∀ m,m<=n->Zay n (λa b=>if a<m then s a*M a b else M a b)=Za9 m s*Zay n M:=by
  intro m
  induction m with
  | zero=>intro _;simp only[Za9];rw[Za7 (N:=M) (λa b _ _=>Gw (Ym a))];grind
  | succ m ih =>
   intro hm;have h0:=ih Gk;have h1:=Zhn (n:=n) (λa b=>if a<m then s a*M a b else M a b) (k:=m) Gk (M m) (M m) (s m) 0
   have e1:Zak (λa b=>if a<m then s a*M a b else M a b) m (λb=>s m*M m b+0*M m b)=λa b=>if a<m+1 then s a*M a b else M a b:=by
    funext a b
    unfold Zak;by_cases ha:a=m;subst ha;rw[Gx rfl,Gx Gk];grind;rw[Gw ha];by_cases h2:a<m;rw[Gx Gk];simp only[Gx h2];rw[Gw Gk];simp only[Gw h2]
   have e2:Zak (λa b=>if a<m then s a*M a b else M a b) m (M m)=λa b=>if a<m then s a*M a b else M a b:=by
    funext a b
    unfold Zak;by_cases ha:a=m;subst ha;rw[Gx rfl,Gw Gk];rw[Gw ha]
   rw[e1,e2,h0]at h1;rw[h1];simp only[Za9];grind
 rw[<- key n (Qa _)];exact Za7 λa b ha _=>by rw[Gx ha]
section
variable{B S n m:Nat}
theorem EIR.diag{col:Nat}{R:List (List Rat)}{pc:Nat->Nat}{G:Nat->Nat->Rat}{s:Nat->Rat}(h:EIR B S n m col n R pc G s)(hc:col<=n){l:Nat}(hl:l<n):pc l=l:=by
 have h1:∀ l,l<n->l<=pc l:=by
  intro l
  induction l with
  | zero=>intro _;omega
  | succ l ih=>intro hl;have:=ih Gk;have:=h.inc l (l+1) Gk hl;omega
 have h2:∀ d l,l+d+1=n->pc l+d<n:=by
  intro d
  induction d with
  | zero=>intro l hl;have:=h.pcl l Gk;omega
  | succ d ih=>intro l hl;have:=ih (l+1) Gk;have:=h.inc l (l+1) Gk Gk;omega
 have:=h1 l hl;have:=h2 (n-l-1) l Gk;omega
end
structure AltF (n:Nat) (F:(Nat->Nat->Rat)->Rat):Prop where
 congr:∀ {M N:Nat->Nat->Rat},(∀ a b,a<n->b<n->M a b=N a b)->F M=F N
 lin:∀ (M:Nat->Nat->Rat) (k:Nat),k<n->∀ (r s:Nat->Rat) (x y:Rat),F (Zak M k (λb=>x*r b+y*s b))=x*F (Zak M k r)+y*F (Zak M k s)
 two:∀ (M:Nat->Nat->Rat) (k l:Nat),k<n->l<n->k≠l->(∀ b,M k b=M l b)->F M=0
theorem AltF.det(n:Nat):AltF n (Zay n):=⟨Za7,λM _ hk r s x y=>Zhn M hk r s x y,λ_ _ _ hk hl hne h=>Zkn hk hl hne h⟩
section
variable{n:Nat}{F:(Nat->Nat->Rat)->Rat}
theorem AltF.add(h:AltF n F)(M:Nat->Nat->Rat){k:Nat}(hk:k<n)(r s:Nat->Rat):F (Zak M k (λb=>r b+s b))=F (Zak M k r)+F (Zak M k s):=by
 have:=h.lin M k hk r s 1 1;rw[show (λb=>r b+s b)=(λb=>1*r b+1*s b) by funext b;grind,this];grind
theorem AltF.swap(h:AltF n F){k l:Nat}(hk:k<n)(hl:l<n)(hne:k≠l)(M:Nat->Nat->Rat):F (Zak (Zak M k (M l)) l (M k))=- F M:=by
 obtain⟨r,hr⟩:=Gz (M l);obtain⟨s,hs⟩:=Gz (M k);have h0:=h.two (Zak (Zak M k (λb=>r b+s b)) l (λb=>r b+s b)) k l hk hl hne (λb=>by simp[Zak,hne]);have h1:=h.two (Zak (Zak M k r) l r) k l hk hl hne (λb=>by simp[Zak,hne]);have h2:=h.two (Zak (Zak M k s) l s) k l hk hl hne (λb=>by simp[Zak,hne]);rw[h.add _ hl,Zce _ hne,Zce _ hne,h.add _ hk,h.add _ hk,<- Zce _ hne,<- Zce _ hne,<- Zce _ hne,<- Zce _ hne,h1,h2]at h0;rw[hr,hs];have e:Zak (Zak M k s) l r=M:=by rw[<- hs,Zed,<- hr,Zed]
 rw[e]at h0
 grind
theorem AltF.addrow(h:AltF n F)(M:Nat->Nat->Rat){k l:Nat}(hk:k<n)(hl:l<n)(hne:k≠l)(c:Rat):F (Zak M k (λb=>M k b+c*M l b))=F M:=by
 have h1:=h.lin M k hk (M k) (M l) 1 c
 rw[show (λb=>M k b+c*M l b)=(λb=>1*M k b+c*M l b) by funext b;grind,h1,Zed,
  h.two (Zak M k (M l)) k l hk hl hne (λb=>by simp[Zak,QD hne])]
 grind
theorem AltF.clear(h:AltF n F)(M:Nat->Nat->Rat){l:Nat}(hl:l<n)(c:Nat->Rat):F (λa b=>if a=l then M a b else M a b+c a*M l b)=F M:=by
 have key:∀ m,m<=n->F (λa b=>if a=l then M a b else if a<m then M a b+c a*M l b else M a b)=F M:=by
  intro m
  induction m with
  | zero=>intro _;exact h.congr λa b _ _=>by split <;> rfl
  | succ m ih =>
   intro hm;have h0:=ih Gk;by_cases fo:m=l
   ·rw[<- h0];refine h.congr λa b _ _=>?_
    exact Ik
   have h1:=h.addrow (λa b=>if a=l then M a b else if a<m then M a b+c a*M l b else M a b) (k:=m) (l:=l) Gk hl fo (c m);rw[h0]at h1;rw[<- h1];refine h.congr λa b _ _=>?_;exact FR
 rw[<- key n (Qa _)];exact h.congr λa b ha hb=>by rw[Gx ha]
end
theorem Z1f(n:Nat)(A:Nat->Nat->Rat):∀ c,c<=n->∃ (U:Nat->Nat->Rat) (e:Rat),(∀ i j,i<n->j<c->j<i->U i j=0)/\∀ F,AltF n F->F A=e*F U:=by
 intro c
 induction c with
 | zero=>intro _;exact⟨A,1,λi j _ h=>by omega,λF _=>by grind⟩
 | succ c ih =>
  intro hc;obtain⟨U,e,h1,h2⟩:=ih Gk
  have clr:∀ V:Nat->Nat->Rat,(∀ i j,i<n->j<c->j<i->V i j=0)->V c c≠0->∃ (U:Nat->Nat->Rat),(∀ i j,i<n->j<c+1->j<i->U i j=0)/\∀ F,AltF n F->F V=F U:=by
   intro V hV hp;refine⟨λa b=>if a=c then V a b else V a b+(if a<c then 0 else -(V a c/V c c))*V c b,λi j hi hj hji=>?_,λF hF=>(hF.clear V Gk _).symm⟩;by_cases hic:i=c;subst hic;simp only[if_true];exact hV i j hi Gk hji;simp only[Gw hic];by_cases hlt:i<c;rw[Gx hlt,hV i j hi Gk hji];grind;rw[Gw hlt];by_cases hjc:j=c;subst hjc;grind;rw[hV i j hi Gk hji,hV c j Gk Gk Gk];grind
  by_cases hz:∀ i,c<i->i<n->U i c=0
  ·refine⟨U,e,λi j hi hj hji=>?_,h2⟩
   by_cases hjc:j=c;subst hjc;exact hz i hji hi;exact h1 i j hi Gk hji
  by_cases hp:U c c=0
  ·obtain⟨k,C,u,y⟩:∃ k,c<k/\k<n/\U k c≠0:=by
     refine Classical.byContradiction λhn=>hz λi h1 h2=>Classical.byContradiction λh3=>hn ⟨i,h1,h2,h3⟩
   obtain⟨V,f,o⟩:=clr (Zak (Zak U c (U k)) k (U c)) (λi j hi hj hji=>by
    unfold Zak;by_cases hik:i=k;rw[Gx hik];exact h1 c j Gk hj Gk
    ·rw[Gw hik]
     by_cases hic:i=c;rw[Gx hic];exact h1 k j u hj Gk;rw[Gw hic];exact h1 i j hi hj hji) (by
    unfold Zak;rw[Gw Gk,Gx rfl];exact y)
   refine⟨V,-e,f,λF hF=>?_⟩;rw[h2 F hF,<- o F hF,hF.swap Gk u Gk];grind
  obtain⟨V,f,o⟩:=clr U h1 hp;exact⟨V,e,f,λF hF=>by rw[h2 F hF,o F hF]⟩
def Zbq(a b:Nat):Rat:=if a=b then 1 else 0
theorem AltF.tri{n:Nat}{F:(Nat->Nat->Rat)->Rat}(h:AltF n F):∀ t,t<=n->∀ U:Nat->Nat->Rat,(∀ i j,i<n->j<i->U i j=0)->(∀ i j,t<=i->i<n->U i j=Zbq i j)->F U=Za9 t (λi=>U i i)*F Zbq
 | 0,_,U,_,h2=>by
  rw[h.congr (N:=Zbq) (λa b ha hb=>h2 a b (Qw _) ha)];simp only[Za9];grind
 | t+1,ht,U,h1,h2=>by
  -- row t is cleared by the rows behind it
  have key:∀ c,c<=n->F (Zak U t (λb=>if t<b/\b<c then 0 else U t b))=F U:=by
   intro c
   induction c with
   | zero=>intro _;refine h.congr λa b _ _=>?_
           unfold Zak;by_cases ha:a=t;rw[Gx ha,ha];simp only[Ym,and_false,if_false];rw[Gw ha]
   | succ c ih =>
    intro hc;have h0:=ih Gk;by_cases htc:t<c
    ·have h3:=h.addrow (Zak U t (λb=>if t<b/\b<c then 0 else U t b)) (k:=t) (l:=c) Gk Gk Gk (-(U t c))
     rw[h0]at h3;rw[<- h3];refine h.congr λa b _ hb=>?_;unfold Zak;by_cases ha:a=t
     ·subst ha
      simp only[if_true];rw[Gw (by omega:¬ c=a),h2 c b Gk Gk];unfold Zbq;by_cases hbc:c=b;subst hbc;rw[Gx Gk,Gw Gk,Gx rfl];grind;rw[Gw hbc];by_cases hb2:a<b/\b<c;rw[Gx Gk,Gx hb2];grind;rw[Gw Gk,Gw hb2];grind
     rw[Gw ha,Gw ha,Gw ha]
    rw[<- h0];refine h.congr λa b _ _=>?_;unfold Zak;by_cases ha:a=t
    ·rw[Gx ha,Gx ha]
     simp only[Gw (show ¬ (t<b/\b<c+1) by omega),Gw (show ¬ (t<b/\b<c) by omega)]
    rw[Gw ha,Gw ha]
  have hk:=key n (Qa _);have hs:=h.lin U t Gk (Zbq t) (Zbq t) (U t t) 0
  have e1:F (Zak U t (λb=>if t<b/\b<n then 0 else U t b))=F (Zak U t (λb=>U t t*Zbq t b+0*Zbq t b)):=by
   refine h.congr λa b _ hb=>?_;unfold Zak;by_cases ha:a=t
   ·rw[Gx ha,Gx ha]
    unfold Zbq;simp only;by_cases hb1:t=b;subst hb1;rw[Gw Gk,Gx rfl];grind;rw[Gw hb1];by_cases hb2:t<b;rw[Gx ⟨hb2,hb⟩];grind;rw[Gw Gk,h1 t b Gk Gk];grind
   rw[Gw ha,Gw ha]
  have ih:=h.tri t Gk (Zak U t (Zbq t)) (λi j hi hji=>by
   unfold Zak Zbq;split;rw[Gw Gk]
   ·exact h1 i j hi hji) (λi j hti hi=>by
   unfold Zak;split;rename_i h;rw[h];exact h2 i j Gk hi)
  rw[<- hk,e1,hs,ih];rw[Za9,Zda (f:=λi=>Zak U t (Zbq t) i i) (g:=λi=>U i i) (λi hi=>by unfold Zak;rw[Gw Gk])]
  grind
theorem Zt0(n:Nat):Zay n Zbq=1:=by
 rw[Zkg (λa b _ h=>by unfold Zbq;rw[Gw Gk])]
 have:∀ m,Za9 m (λi=>Zbq i i)=1:=by
  intro m
  induction m with
  | zero=>rfl
  | succ m ih=>simp only[Za9];rw[ih];unfold Zbq;rw[Gx rfl];grind
 exact this n
theorem AltF.eq{n:Nat}{F:(Nat->Nat->Rat)->Rat}(h:AltF n F)(A:Nat->Nat->Rat):F A=Zay n A*F Zbq:=by
 obtain⟨U,e,h1,h2⟩:=Z1f n A n (Qa _);have h3:=h.tri n (Qa _) U (λi j hi hj=>h1 i j hi Gk hj) (λi j h1 h2=>by omega);have h4:=(AltF.det n).tri n (Qa _) U (λi j hi hj=>h1 i j hi Gk hj) (λi j h1 h2=>by omega);rw[h2 F h,h2 _ (AltF.det n),h3,h4,Zt0];grind
def Zuc(k:Nat)(A B:Nat->Nat->Rat):Nat->Nat->Rat:=λi j=>Z0 k (λl=>A i l*B l j)
theorem det_mul(n:Nat)(A B:Nat->Nat->Rat):Zay n (Zuc n A B)=Zay n A*Zay n B:=by
 have hF:AltF n (λM=>Zay n (Zuc n M B)):=by
  refine⟨λ{M N} h=>Za7 λa b ha hb=>Zw λl hl=>by rw[h a l ha hl],λM k hk r s x y=>?_,λM k l hk hl hne h=>Zkn hk hl hne (λb=>Zw λi hi=>by rw[h i])⟩
  have e:∀ q:Nat->Rat,Zuc n (Zak M k q) B=Zak (Zuc n M B) k (λb=>Z0 n (λl=>q l*B l b)):=by
   intro q
   funext a b
   unfold Zuc Zak;by_cases ha:a=k
   ·rw[Gx ha];refine Zw λl _=>by rw[Gx ha]
   rw[Gw ha];refine Zw λl _=>by rw[Gw ha]
  rw[e,e,e,<- Zhn (Zuc n M B) hk];congr 2
  funext b
  rw[<- Ze6];exact Zw λl _=>by grind
 have:=hF.eq A;rw[this];congr 1;refine Za7 λa b ha hb=>?_;unfold Zuc;rw[Zfk a ha (λi _ hi=>by unfold Zbq;rw[Gw (QD hi)];grind)];unfold Zbq;rw[Gx rfl];grind
theorem Z2g{n:Nat}(A:Nat->Nat->Rat)(x y:Nat->Rat)(h:∀ i,i<n->Z0 n (λj=>A i j*x j)=y i){k:Nat}(hk:k<n):Zay n A*x k=Zay n (λa b=>if b=k then y a else A a b):=by
 have hT:Zay n (λa b=>if b=k then x a else Zbq a b)=x k:=by
  -- rows a: unit a+x a at column k;row k: x k at column k
  have h1:=(AltF.det n).lin (λa b=>if b=k then x a else Zbq a b) k hk (Zbq k) (Zbq k) (x k) 0
  have e1:Zak (λa b=>if b=k then x a else Zbq a b) k (λb=>x k*Zbq k b+0*Zbq k b)=(λa b=>if b=k then x a else Zbq a b):=by
   funext a b
   unfold Zak;by_cases ha:a=k
   ·subst ha;rw[Gx rfl];unfold Zbq
    by_cases hb:b=a;subst hb;simp only[if_true];grind;rw[Gw hb,Gw (QD hb)];grind
   rw[Gw ha]
  rw[e1]at h1;have h2:=Zn3 (n:=n) (λa b=>Zbq a b) hk x
  have e2:Zay n (Zak (λa b=>if b=k then x a else Zbq a b) k (Zbq k))=Zay n (λa b=>if a=k then Zbq a b else Zbq a b+x a*Zbq k b):=by
   refine Za7 λa b _ _=>?_;unfold Zak;by_cases ha:a=k;rw[Gx ha,Gx ha,ha];rw[Gw ha,Gw ha];unfold Zbq;simp only;by_cases hb:b=k;subst hb;rw[Gx rfl,Gw ha,Gx rfl];grind;rw[Gw hb,Gw (QD hb)];grind
  rw[e2,h2,Zt0]at h1;rw[h1];grind
 have h3:=det_mul n A (λa b=>if b=k then x a else Zbq a b);rw[hT]at h3;rw[<- h3];refine Za7 λa b ha hb=>?_;unfold Zuc;by_cases hbk:b=k
 ·rw[Gx hbk,<- h a ha]
  exact Zw λl _=>by simp only;rw[Gx hbk]
 rw[Gw hbk,Zfk b hb (λi _ hi=>by simp only;rw[Gw hbk];unfold Zbq;rw[Gw hi];grind)];simp only;rw[Gw hbk];unfold Zbq;rw[Gx rfl];grind
theorem Zwk(a b:Int)(h:b≠0):(Qu a b).num.natAbs<=a.natAbs:=by
 rw[Rat.num_divInt];rw[QW];exact FI;exact Int.dvd_trans (Ye _ _) (Yi _ _)
theorem Zus(a b:Int)(h:b≠0):(Qu a b).den<=b.natAbs:=by
 rw[Rat.den_divInt,Gw h];exact QU _ _
theorem Zeh:1<pw 1:=by rw[Zaz,Zd1];decide
def SmN(i j:Nat)(r:Rat):Prop:=r.num.natAbs<pw i/\r.den<pw j
theorem SmN.sm{i j:Nat}{r:Rat}(h:SmN i j r)(hi:i<=1000)(hj:j<=1000):Sm r:=⟨Qh h.1 (Zb1 hi),Qh h.2 (Zb1 hj)⟩
theorem SmN.mono{i j i' j':Nat}{r:Rat}(h:SmN i j r)(hi:i<=i')(hj:j<=j'):SmN i' j' r:=⟨Qh h.1 (Zb1 hi),Qh h.2 (Zb1 hj)⟩
theorem SmN.div{i j:Nat}{n s:Int}(h0:0<s)(hn:n.natAbs<pw i)(hs:s.natAbs<pw j):SmN i j (Qu n s):=
 ⟨Qc (Zwk n s Gk) hn,Qc (Zus n s Gk) hs⟩
theorem SmN.int{i:Nat}{n:Int}(hn:n.natAbs<pw i):SmN i 1 (n:Rat):=⟨by simpa using hn,by simp only[Rat.den_intCast];exact Zeh⟩
theorem Zp7{x y z v:Int}{i j i' j':Nat}(hx:x.natAbs<pw i)(hy:y.natAbs<pw j)(hz:z.natAbs<pw i')(hv:v.natAbs<pw j'):(x*y).natAbs+(z*v).natAbs<pw (max (i+j) (i'+j')+1):=by
 have h1:(x*y).natAbs<pw (max (i+j) (i'+j')):=by
  rw[Qx];exact Qh (Zc1 hx hy) (Zb1 Gk)
 have h2:(z*v).natAbs<pw (max (i+j) (i'+j')):=by
  rw[Qx];exact Qh (Zc1 hz hv) (Zb1 Gk)
 have h3:=Zq2 (max (i+j) (i'+j'));omega
theorem SmN.dn{i j:Nat}{r:Rat}(h:SmN i j r):((r.den:Nat):Int).natAbs<pw j:=by simpa using h.2
theorem IQ{G:Prop}(h:G:=by
 refine SmN.div (Zck a b) ?_ ?_;have:=Zp7 ha.1 hb.dn hb.1 ha.dn;omega;rw[Int.natAbs_mul];exact Zc1 ha.dn hb.dn):G:=h
theorem SmN.sub{i j i' j':Nat}{a b:Rat}(ha:SmN i j a)(hb:SmN i' j' b):SmN (max (i+j') (i'+j)+1) (j+j') (a-b):=by
 rw[<- Zru];exact IQ
theorem SmN.add{i j i' j':Nat}{a b:Rat}(ha:SmN i j a)(hb:SmN i' j' b):SmN (max (i+j') (i'+j)+1) (j+j') (a+b):=by
 rw[<- Zxg];exact IQ
def upS(E X:Nat->Nat->Rat)(i k t:Nat):Rat:=E i k-Z0 t (λj=>if i<j then E i j*X j k else 0)
theorem Zub(E X:Nat->Nat->Rat)(i k t:Nat)(h:t<=i+1):upS E X i k t=E i k:=by
 unfold upS
 have:Z0 t (λj=>if i<j then E i j*X j k else 0)=0:=by
  induction t with
  | zero=>rfl
  | succ t ih=>simp only[Z0];rw[ih Gk,Gw Gk];grind
 rw[this];grind
theorem Zr4(E X:Nat->Nat->Rat){i k t:Nat}(h:i<t):upS E X i k (t+1)=upS E X i k t-E i t*X t k:=by
 unfold upS;simp only[Z0];rw[Gx h];grind
def Zhg(E X:Nat->Nat->Rat)(n m:Nat):Prop:=
 (∀ i,i<n->E i i≠0)/\(∀ i k,i<n->n<=k->k<m->X i k=upS E X i k n/E i i)/\(∀ i j,SmN 300 300 (E i j))/\(∀ i k,SmN 300 300 (X i k))/\∀ i k t,SmN 400 400 (upS E X i k t)
def Zj2(X:Nat->Nat->Rat)(n m:Nat):List (List Rat):=(Qt n).map λi=>(Qt (m-n)).map λc=>X i (n+c)
theorem Zy4{E X X':Nat->Nat->Rat}{i k t:Nat}(h:∀ j,i<j->j<t->X j k=X' j k):upS E X i k t=upS E X' i k t:=by
 unfold upS;congr 1;refine Zw λj hj=>?_;by_cases hij:i<j;rw[Gx hij,Gx hij,h j hij hj];rw[Gw hij,Gw hij]
theorem Zzj{E E' X:Nat->Nat->Rat}{i k t:Nat}{c:Rat}(h:∀ j,E' i j=c*E i j):upS E' X i k t=c*upS E X i k t:=by
 unfold upS
 have:Z0 t (λj=>if i<j then E' i j*X j k else 0)=c*Z0 t (λj=>if i<j then E i j*X j k else 0):=by
  have h1:=Ze6 (n:=t) (λj=>if i<j then E i j*X j k else 0) (λ_=>0) c 0;rw[show c*Z0 t (λj=>if i<j then E i j*X j k else 0)=c*Z0 t (λj=>if i<j then E i j*X j k else 0)+0*Z0 t (λ_=>0) by grind,<- h1];refine Zw λj _=>?_;by_cases hij:i<j;rw[Gx hij,Gx hij,h];grind;rw[Gw hij,Gw hij];grind
 rw[this,h];grind
theorem Zr5{E X:Nat->Nat->Rat}{n i k t:Nat}(hX:∀ j,n<=j->X j k=0)(h:n<=t):upS E X i k t=upS E X i k n:=by
 unfold upS;congr 1
 induction t with
 | zero=>obtain rfl:n=0:=by omega
         rfl
 | succ t ih =>
  by_cases hn:n=t+1;rw[hn];simp only[Z0];rw[ih Gk];by_cases hit:i<t;rw[Gx hit,hX t Gk];grind;rw[Gw hit];grind
theorem Zn9{n:Nat}(E:Nat->Nat->Rat):∀ t,t<=n->∃ X:Nat->Nat->Rat,(∀ i k,n-t<=i->i<n->X i k=upS E X i k n/E i i)/\∀ i k,n<=i->X i k=0
 | 0,_=>⟨λ_ _=>0,λi k h1 h2=>by omega,λ_ _ _=>rfl⟩
 | t+1,ht=>by
  obtain⟨X,h1,h2⟩:=Zn9 (n:=n) E t Gk;refine⟨λi k=>if i=n-(t+1)then upS E X i k n/E i i else X i k,λi k hi hn=>?_,λi k hi=>?_⟩
  ·have hc:upS E (λi k=>if i=n-(t+1)then upS E X i k n/E i i else X i k) i k n=upS E X i k n:=Zy4 λj hj hjn=>by
     rw[Gw Gk]
   rw[hc];show (if i=n-(t+1)then upS E X i k n/E i i else X i k)=_;by_cases hit:i=n-(t+1);rw[Gx hit];rw[Gw hit];exact h1 i k Gk hn
  show (if i=n-(t+1)then _ else _)=_;rw[Gw Gk];exact h2 i k hi
theorem Zvf{n:Nat}{E X:Nat->Nat->Rat}{i k:Nat}(hi:i<n)(hlow:∀ j,j<i->E i j=0)(hd:E i i≠0)(hX:X i k=upS E X i k n/E i i):Z0 n (λj=>E i j*X j k)=E i k:=by
 have h1:E i i*X i k=upS E X i k n:=by rw[hX];grind
 unfold upS at h1
 have h2:Z0 n (λj=>E i j*X j k)=Z0 n (λj=>if j=i then E i i*X i k else 0)+Z0 n (λj=>if i<j then E i j*X j k else 0):=by
  have:=Ze6 (n:=n) (λj=>if j=i then E i i*X i k else 0) (λj=>if i<j then E i j*X j k else 0) 1 1;rw[show ∀ a b:Rat,a+b=1*a+1*b by intro a b;grind,<- this];refine Zw λj _=>?_;rcases Yd j i with h|h|h;rw[hlow j h,Gw Gk,Gw Gk];grind;subst h;rw[Gx rfl,Gw (QN _)];grind;rw[Gw Gk,Gx h];grind
 rw[h2,Zfk i hi (λj _ hj=>Gw hj),Gx rfl,h1];grind
def Zor(R:List (List Rat))(m:Nat)(x:Nat->Rat)(i:Nat):Rat:=Z0 m (λj=>Zh R i j*x j)
theorem Zk5{n m:Nat}(x:Nat->Rat):∀ (f col r:Nat) (R:List (List Rat)) (neg:Bool),R.length=n->(∀ i,i<n->(R[i]?.getD []).length=m)->r<=n->(∀ i j,r<=i->i<n->j<col->Zh R i j=0) ->
    (∀ i,i<n->Zor (Zbh f col r R neg).1 m x i=0)->∀ i,i<n->Zor R m x i=0
 | 0,col,r,R,neg,_,_,_,_,h=>h
 | f+1,col,r,R,neg,hl,hrow,hr,hlow,h=>by
  unfold Zbh at h;rw[hl]at h;by_cases hrn:r=n;simp only[Gx hrn]at h;exact h;simp only[Gw hrn]at h;obtain⟨q,hq⟩:∃ q,Zbp (λi=>Zh R i col == 0) n n r=q:=⟨_,rfl⟩;obtain⟨p1,p2,p3,p4⟩:=Zfd (z:=λi=>Zh R i col == 0) (n:=n) (f:=n) (k:=r) Gk Gk;rw[hq]at p1 p2 p3 p4;rw[hq]at h;by_cases hqn:q=n
  ·simp only[Gx hqn]at h
   refine Zk5 x f (col+1) r R neg hl hrow hr (λi j h1 h2 h3=>?_) h;by_cases hj:j=col;rw[hj];simpa using p3 i h1 Gk;exact hlow i j h1 h2 Gk
  simp only[Gw hqn]at h;have u:q<n:=Gk;have U:Zh R q col≠0:=by simpa using p4 u
  have O:(Zaj R q r).length=n:=by rw[Zeg,hl]
  have y:∀ i,i<(Zaj R q r).length->((Zaj R q r)[i]?.getD []).length=m:=λi hi=>by
   rw[O]at hi;rw[Zdu Gk Gk];exact hrow _ (Zh5 u Gk hi)
  have I:∀ i j,Zh (Zaj R q r) i j=Zh R (swI q r i) j:=λi j=>Zin Gk Gk i j
  have o:∀ i j,r<=i->i<n->j<col->Zh (Zaj R q r) i j=0:=λi j h1 h2 h3=>by
   rw[I];exact hlow _ j (Zrv p1 h1) (Zh5 u Gk h2) h3
  have V:swI q r r=q:=by unfold swI;split
                         rename_i e;exact e;rw[Gx rfl]
  have Y:Zh (Zaj R q r) r col≠0:=by rw[I,V];exact U
  have C:∀ i j,i<n->Zh (Zbr (Zaj R q r) r col) i j=if i<=r then Zh (Zaj R q r) i j else Zh (Zaj R q r) i j-Zh (Zaj R q r) i col/Zh (Zaj R q r) r col*Zh (Zaj R q r) r j:=
   λi j hi=>Zg1 (m:=m) y (λj hj=>o r j (Qa _) Gk hj) i j Gk Gk
  have ih:=Zk5 x f (col+1) (r+1) (Zbr (Zaj R q r) r col) _ (by rw[Ze9,O]) (λi hi=>by rw[Znq i Gk];exact y i Gk) Gk (λi j h1 h2 h3=>by
   rw[C i j h2,Gw Gk];by_cases hj:j=col;rw[hj];grind;rw[o i j Gk h2 Gk,o r j (Qa _) Gk Gk];grind) h
  have J:Zor (Zaj R q r) m x r=0:=by
   have:=ih r Gk;unfold Zor at this ⊢;rw[<- this];refine Zw λj _=>by rw[C r j Gk,Gx (Qa _)]
  have T:∀ i,i<n->Zor (Zaj R q r) m x i=0:=λi hi=>by
   have h1:=ih i hi;by_cases hir:i<=r
   ·unfold Zor at h1 ⊢
    rw[<- h1];exact Zw λj _=>by rw[C i j hi,Gx hir]
   unfold Zor at h1 J ⊢;have h2:=Ze6 (n:=m) (λj=>Zh (Zaj R q r) i j*x j) (λj=>Zh (Zaj R q r) r j*x j) 1 (-(Zh (Zaj R q r) i col/Zh (Zaj R q r) r col));rw[J]at h2
   have h3:Z0 m (λj=>Zh (Zbr (Zaj R q r) r col) i j*x j)=Z0 m (λj=>1*(Zh (Zaj R q r) i j*x j)+-(Zh (Zaj R q r) i col/Zh (Zaj R q r) r col)*(Zh (Zaj R q r) r j*x j)):=
    Zw λj _=>by rw[C i j hi,Gw hir];grind
   rw[h3,h2]at h1
   grind
  intro i hi;have:=T (swI q r i) (Zh5 u Gk hi);unfold Zor at this ⊢;rw[<- this];exact Zw λj _=>by rw[I,Zrf]
theorem BndQ.sub{B C:Nat}{p q:Rat}(h:BndQ B p)(k:BndQ C q):BndQ (B+C) (p-q):=by
 obtain⟨a,rfl,ha⟩:=h;obtain⟨b,rfl,hb⟩:=k;exact⟨a-b,by rw[Yk],by omega⟩
theorem BndQ.zero{B:Nat}:BndQ B 0:=⟨0,rfl,by simp⟩
def SolQ(Q X:Nat->Nat->Rat)(n m:Nat):Prop:=∀ i k,i<n->n<=k->k<m->Z0 n (λj=>Q i j*X j k)=Q i k
theorem Zon{n m:Nat}{f:Nat->Rat}{k:Nat}(hk:n<=k)(hm:k<m)(h:∀ j,n<=j->j≠k->f j=0):Z0 m f=Z0 n f+f k:=by
 induction m with
 | zero=>omega
 | succ m ih =>
  simp only[Z0];by_cases hkm:k=m
  ·subst hkm
   congr 1
   have:∀ t,n+t<=k->Z0 (n+t) f=Z0 n f:=by
    intro t
    induction t with
    | zero=>intro _;rfl
    | succ t iht=>intro ht;rw[<- Nat.add_assoc];simp only[Z0];rw[iht Gk,h (n+t) Gk Gk];grind
   have h1:=this (k-n) Gk;rw[show n+(k-n)=k by omega]at h1;exact h1
  rw[ih Gk,h m Gk Gk];grind
section
variable{B S n m:Nat}
theorem Cl{G:Prop}(h:G:=by
 exact⟨Zbt _,by show 1<pw 300;exact Nat.lt_of_lt_of_le Zeh (Zb1 Gj)⟩):G:=h
theorem Cw{G:Prop}(h:G:=by
 rw[this];exact⟨Zbt _,by show 1<pw 400;exact Nat.lt_of_lt_of_le Zeh (Zb1 Gj)⟩):G:=h
theorem Zwu(hB:1<=B)(hS:1<=S)(R:List (List Rat))(hl:R.length=n)(hrow:∀ i,i<n->(R[i]?.getD []).length=m)(hs:∀ i,i<n->denAt R i<=S)(hBd:∀ i j,i<n->(Zah (Z6 R) i j).natAbs<=B)(hnm:n<=m)
    (g1:(n+1)*(Zbo B n*Zbo B n)<pw 400) (g2:Zbo B n*Zbo B n*S<pw 400) (g3:Zbo B n*S<pw 300) :
    okZ (Zbo B n+1) m n 0 0 (Z6 R) 1/\okR (Zbo B n+1) (Zbo B n*S+1) m n 0 0 R /\
    (Zar n 0 0 (Z6 R) false 1).2.1=(Zbh n 0 0 R false).2.1/\(Zbh n 0 0 R false).2.1<=n /\
    ((Zbh n 0 0 R false).2.1<n->Zay n (Zh R)=0) /\
    ((Zbh n 0 0 R false).2.1=n->Zay n (Zh R)≠0/\∃ X:Nat->Nat->Rat,Zhg (Zh (Zbh n 0 0 R false).1) X n m/\Zhg (λi j=>(Zah (Zar n 0 0 (Z6 R) false 1).1 i j:Rat)) X n m/\SolQ (Zh R) X n m/\∀ i k,(X i k).num.natAbs<=Zbo B n/\(X i k).den<=Zbo B n):=by
 obtain⟨h1,h2⟩:=Znz R hl hrow hs hBd;obtain⟨o1,o2,o3,o4,a7,U,G',s',o5,o6,o7,o8,o9⟩:=Zld hB hS n 0 0 R _ _ _ _ false 1 h1 h2 Gk
 have c9:((byZ R n:Nat):Rat)≠0:=by
  intro h;have:byZ R n=0:=by exact_mod_cast h
  have:=Zxi R n;omega
 have C:=o9 (λb=>b);rw[Zu8 (λa b=>Zh R a b) (λa=>((denAt R a:Nat):Rat)),<- Z2l]at C;have c4:sgB false=1:=rfl;rw[c4]at C;have c6:∀ b,sgB b*sgB b=1:=by intro b;cases b <;> simp[sgB] <;> grind
 refine⟨o1,o2,o3,o5.rn,λhr=>?_,λhr=>?_⟩
 ·have hE:=o5.det n (λb=>b) (λa=>a) (λa ha=>ha) (λa _=>rfl) (λa ha=>ha)
  have d3:a7=n:=Gk
  have h0:Zay n (λa b=>s' a*Zh (Zbh n 0 0 R false).1 a b)=0:=by
   rw[Zkg]
   ·refine Zwb (k:=n-1) Gk ?_
    rw[o5.low (n-1) (n-1) Gk Gk Gk];grind
   intro a b ha hb;by_cases har:a<(Zbh n 0 0 R false).2.1
   ·have:∀ l,l<(Zbh n 0 0 R false).2.1->l<=U l:=by
      intro l
      induction l with
      | zero=>intro _;omega
      | succ l ih=>intro hl;have:=ih Gk;have:=o5.inc l (l+1) Gk hl;omega
    have:=this a har;rw[o5.bef a b har Gk];grind
   rw[o5.low a b Gk ha Gk];grind
  rw[hE]at h0;rw[h0]at C;have:((byZ R n:Nat):Rat)*Zay n (Zh R)=0:=by grind
  rcases Rat.mul_eq_zero.1 this with h|h;exact absurd h c9;exact h
 rw[hr]at o5 o6;have b3:a7<=n:=Gk;have I:∀ l,l<n->U l=l:=λl hl=>o5.diag b3 hl;obtain⟨E,o⟩:=Gz (Zh (Zbh n 0 0 R false).1);have T:∀ i j,i<n->j<i->E i j=0:=λi j hi hj=>by rw[<- o];exact o5.bef i j hi (by rw[I i hi];exact hj)
 have Y:∀ i,i<n->E i i≠0:=λi hi=>by have:=o5.piv i hi;rw[I i hi]at this;rw[<- o];exact this
 have y:∀ i j,n<=i->E i j=0:=λi j hi=>by rw[<- o];unfold Zh;rw[Qe (l:=(Zbh n 0 0 R false).1) (by rw[o5.len];exact hi)];rfl
 have d0:∀ i j,i<n->m<=j->E i j=0:=λi j hi hj=>by rw[<- o];exact Zs6 o5.row hi hj
 have b9:∀ i,i<n->s' i≠0:=λi hi=>(o5.sB i hi).2
 -- the determinant
 obtain⟨D,hD⟩:∃ D,Zay n (λa b=>G' a b)=D:=⟨_,rfl⟩
 have b8:Zay n (λa b=>s' a*E a b)=D:=by
  have:=o5.det n (λb=>b) (λa=>a) (λa ha=>ha) (λa _=>rfl) (λa ha=>ha);rw[<- hD,<- this,o]
 have J:D≠0:=by
  rw[<- b8,Zkg (λa b ha hb=>by rw[T a b ha hb];grind)];intro h0
  have hp:∀ t,t<=n->Za9 t (λi=>s' i*E i i)≠0:=by
   intro t
   induction t with
   | zero=>intro _ h;simp only[Za9]at h;revert h;decide
   | succ t ih =>
    intro ht h;simp only[Za9]at h;rcases Rat.mul_eq_zero.1 h with h|h;exact ih Gk h;rcases Rat.mul_eq_zero.1 h with h|h;exact b9 t Gk h;exact Y t Gk h
  exact hp n (Qa _) h0
 have a4:BndQ (Zbo B n) D:=by rw[<- hD];exact Zhv λa b ha hb=>o5.gB a b ha
 obtain⟨X,hX,u⟩:=Zn9 (n:=n) E n (Qa _);replace hX:∀ i k,i<n->X i k=upS E X i k n/E i i:=λi k hi=>hX i k Gk hi;have b1:∀ i k,i<n->Z0 n (λj=>E i j*X j k)=E i k:=λi k hi=>Zvf hi (λj hj=>T i j hi hj) (Y i hi) (hX i k hi)
 have b6:∀ i k,i<n->BndQ (Zbo B n) (D*X i k):=λi k hi=>by
  have hc:=Z2g (λa b=>s' a*E a b) (λj=>X j k) (λa=>s' a*E a k) (λa ha=>by
   have:=Ze6 (n:=n) (λj=>E a j*X j k) (λ_=>0) (s' a) 0;rw[b1 a k ha]at this;rw[show s' a*E a k=s' a*E a k+0*Z0 n (λ_=>0) by grind,<- this];exact Zw λj _=>by grind) hi
  rw[b8]at hc;rw[hc];have:=o5.det n (λb=>if b=i then k else b) (λa=>a) (λa ha=>ha) (λa _=>rfl) (λa ha=>ha);rw[o]at this
  rw[<- Za7 (M:=λa b=>s' a*E a (if b=i then k else b)) (λa b _ _=>by
   by_cases hb:b=i;rw[Gx hb,Gx hb];rw[Gw hb,Gw hb]),this]
  exact Zhv λa b ha hb=>o5.gB a _ ha
 have a9:∀ i k,(X i k).num.natAbs<=Zbo B n/\(X i k).den<=Zbo B n:=λi k=>by
  have b0:1<=Zbo B n:=Zc3 (m:=0) hB Gk;by_cases hi:i<n;exact Ze2 (b6 i k hi) a4 J;rw[u i k Gk];exact⟨Qw _,b0⟩
 have b0:1<=Zbo B n:=Zc3 (m:=0) hB Gk;have a0:Zbo B n<=Zbo B n*S:=QE _ hS;obtain⟨P,hP⟩:∃ P:Nat->Rat,P=λi=>Zer (Zbh n 0 0 R false).1 U s' i*s' i:=⟨_,rfl⟩
 have V:∀ i,i<n->P i≠0:=λi hi h0=>by
  rw[hP]at h0;rcases Rat.mul_eq_zero.1 h0 with h|h;exact o5.piv_ne (l:=i) Gk h;exact b9 i hi h
 have b4:∀ i,i<n->BndQ (Zbo B n*S) (P i):=λi hi=>by
  rw[hP];have h5:=o5.pivL_bnd (l:=i) Gk;have h6:=Zc3 hB (show i<=n by omega);exact(h5.mul (o5.sB i hi).1).mono (Qp h6 (Qa _))
 have a5:∀ i j,i<n->BndQ (Zbo B n) (P i*E i j):=λi j hi=>by
  have h5:=o5.minor hi j;rw[show min i n=i by omega,o]at h5;rw[hP];have:Zer (Zbh n 0 0 R false).1 U s' i*s' i*E i j=Zer (Zbh n 0 0 R false).1 U s' i*(s' i*E i j):=by grind
  rw[this];exact h5.mono (Zc3 hB Gk)
 have a8:∀ i k t,i<n->t<=n->BndQ ((n+1)*(Zbo B n*Zbo B n)) (P i*D*upS E X i k t):=λi k t hi ht=>by
  have e:P i*D*upS E X i k t=P i*E i k*D-Z0 t (λj=>if i<j then (P i*E i j)*(D*X j k)else 0):=by
   unfold upS;have:=Ze6 (n:=t) (λj=>if i<j then E i j*X j k else 0) (λ_=>0) (P i*D) 0
   have h5:Z0 t (λj=>if i<j then (P i*E i j)*(D*X j k)else 0)=P i*D*Z0 t (λj=>if i<j then E i j*X j k else 0)+0*Z0 t (λ_=>0):=by
    rw[<- this];refine Zw λj _=>?_;by_cases hij:i<j;rw[Gx hij,Gx hij];grind;rw[Gw hij,Gw hij];grind
   rw[h5];grind
  rw[e]
  have b2:BndQ (t*(Zbo B n*Zbo B n)) (Z0 t (λj=>if i<j then (P i*E i j)*(D*X j k)else 0)):=Zkt λj hj=>by
   by_cases hij:i<j;rw[Gx hij];exact(a5 i j hi).mul (b6 j k Gk);rw[Gw hij];exact BndQ.zero
  refine(((a5 i k hi).mul a4).sub b2).mono ?_;rw[Nat.add_mul,Nat.one_mul,Nat.add_comm];exact Nat.add_le_add_right (Qp ht (Qa _)) _
 have c1:∀ i,i<n->BndQ (Zbo B n*Zbo B n*S) (P i*D):=λi hi=>by
  refine((b4 i hi).mul a4).mono ?_;rw[Nat.mul_right_comm];exact Qa _
 have c0:∀ i k t,SmN 400 400 (upS E X i k t):=λi k t=>by
  by_cases hi:i<n
  ·rcases Nat.le_total t n with ht|ht
   ·have:=Ze2 (a8 i k t hi ht) (c1 i hi) (λh0=>by
      rcases Rat.mul_eq_zero.1 h0 with h|h;exact V i hi h;exact J h)
    exact⟨Qc this.1 g1,Qc this.2 g2⟩
   rw[Zr5 (λj hj=>u j k hj) ht]
   have:=Ze2 (a8 i k n hi (Qa _)) (c1 i hi) (λh0=>by
    rcases Rat.mul_eq_zero.1 h0 with h|h;exact V i hi h;exact J h)
   exact⟨Qc this.1 g1,Qc this.2 g2⟩
  have:upS E X i k t=0:=by
    unfold upS
    rw[y i k Gk,Zgl (λj _=>by
     by_cases hij:i<j;rw[Gx hij,y i j Gk];grind;rw[Gw hij])]
    grind
  exact Cw
 have b7:∀ i k,SmN 300 300 (X i k):=λi k=>⟨Qc (a9 i k).1 (Qc a0 g3),Qc (a9 i k).2 (Qc a0 g3)⟩
 have c5:∀ i j,SmN 300 300 (E i j):=λi j=>by
  by_cases hi:i<n
  ·have:=Ze2 (a5 i j hi) (b4 i hi) (V i hi)
   exact⟨Qc this.1 (Qc a0 g3),Qc this.2 g3⟩
  rw[y i j Gk];exact Cl
 have a3:∀ i j,i<n->(Zah (Zar n 0 0 (Z6 R) false 1).1 i j:Rat)=P i*E i j:=λi j hi=>by
  rw[o6.ent i j hi,show min i n=i by omega,o,hP];grind
 have O:∀ i j,n<=i->(Zah (Zar n 0 0 (Z6 R) false 1).1 i j:Rat)=0:=λi j hi=>by
  unfold Zah;rw[Qe (l:=(Zar n 0 0 (Z6 R) false 1).1) (by rw[o6.len];exact hi)];rfl
 refine⟨?_,X,?_,?_,?_,a9⟩
 ·intro h0
  rw[hD]at C;rw[h0]at C;have hq:=c6 (Zbh n 0 0 R false).2.2;apply J;have:sgB (Zbh n 0 0 R false).2.2*(sgB (Zbh n 0 0 R false).2.2*D)=0:=by rw[C];grind
  grind
 ·rw[o]
  exact⟨Y,λi k hi _ _=>hX i k hi,c5,b7,c0⟩
 ·have b5:∀ i k t,i<n->upS (λi j=>(Zah (Zar n 0 0 (Z6 R) false 1).1 i j:Rat)) X i k t=P i*upS E X i k t:=λi k t hi=>Zzj (E:=E) λj=>a3 i j hi
  refine⟨λi hi=>?_,λi k hi _ _=>?_,λi j=>?_,b7,λi k t=>?_⟩
  ·show (Zah (Zar n 0 0 (Z6 R) false 1).1 i i:Rat)≠0
   rw[a3 i i hi];intro h0;rcases Rat.mul_eq_zero.1 h0 with h|h;exact V i hi h;exact Y i hi h
  ·show X i k=upS (λi j=>(Zah (Zar n 0 0 (Z6 R) false 1).1 i j:Rat)) X i k n/(Zah (Zar n 0 0 (Z6 R) false 1).1 i i:Rat)
   rw[b5 i k n hi,a3 i i hi,hX i k hi];have a1:=V i hi;have a2:=Y i hi
   grind
  ·by_cases hi:i<n
   ·obtain⟨z,c8,c2⟩:=a5 i j hi
    show SmN 300 300 (Zah (Zar n 0 0 (Z6 R) false 1).1 i j:Rat);rw[a3 i j hi,c8];exact(SmN.int (i:=300) (Qc c2 (Qc a0 g3))).mono Gj Gj
   show SmN 300 300 (Zah (Zar n 0 0 (Z6 R) false 1).1 i j:Rat);rw[O i j Gk];exact Cl
  have key:∀ t,i<n->t<=n->SmN 400 400 (P i*upS E X i k t):=λt hi ht=>by
    have h5:=a8 i k t hi ht;have e:P i*D*upS E X i k t=D*(P i*upS E X i k t):=by grind
    rw[e]at h5;have:=Ze2 h5 a4 J;have c3:Zbo B n<=Zbo B n*Zbo B n*S:=Ql (QE _ b0) (QE _ hS);exact⟨Qc this.1 g1,Qc this.2 (Qc c3 g2)⟩
  by_cases hi:i<n
  ·rw[b5 i k t hi]
   rcases Nat.le_total t n with ht|ht;exact key t hi ht;rw[Zr5 (λj hj=>u j k hj) ht];exact key n hi (Qa _)
  have:upS (λi j=>(Zah (Zar n 0 0 (Z6 R) false 1).1 i j:Rat)) X i k t=0:=by
    unfold upS;have hz:∀ j,(Zah (Zar n 0 0 (Z6 R) false 1).1 i j:Rat)=0:=λj=>O i j Gk;simp only[hz]
    rw[Zgl (λj _=>by
     by_cases hij:i<j;rw[Gx hij];grind;rw[Gw hij])]
    grind
  exact Cw
 intro i k hi hk c7
 have hv:∀ (F:Nat->Rat),Z0 m (λj=>F j*(if j<n then X j k else if j=k then -1 else 0))=Z0 n (λj=>F j*X j k)-F k:=λF=>by
  have h1:=Zon (n:=n) (m:=m) (f:=λj=>F j*(if j<n then X j k else if j=k then -1 else 0)) (k:=k) hk c7 (λj h1 h2=>by
   show F j*(if j<n then X j k else if j=k then -1 else 0)=0;rw[Gw (show ¬ j<n by omega),Gw h2];grind)
  have h2:Z0 n (λj=>F j*(if j<n then X j k else if j=k then -1 else 0))=Z0 n (λj=>F j*X j k):=Zw λj hj=>by
   show F j*(if j<n then X j k else if j=k then -1 else 0)=F j*X j k;rw[Gx hj]
  have h3:F k*(if k<n then X k k else if k=k then -1 else 0)=- F k:=by
   rw[Gw (show ¬ k<n by omega),Gx rfl];grind
  rw[h1,h2,h3];grind
 have a6:=Zk5 (n:=n) (m:=m) (λj=>if j<n then X j k else if j=k then -1 else 0) n 0 0 R false hl hrow (Qw _) (λ_ j _ _ hj=>by omega) (λi hi=>by
  unfold Zor;have h1:=hv (λj=>E i j);rw[o];rw[b1 i k hi]at h1;rw[h1];grind) i hi
 unfold Zor at a6;have h1:=hv (λj=>Zh R i j);rw[a6]at h1
 grind
end
def PolyL(w:World)(A:Option Addr)(n c:Nat)(xs:List Int):Prop:=∃ es,WL w A n c es/\es.map WE.num=xs/\∀ e ∈ es,e.ok=true
theorem WE.wd{w:World}{e:WE}(h:Lim w e.A e.n e.c e.l)(hk:e.ok=true):Wd w e.neg e.A e.n e.c e.num:=Wd.of_ok h hk
def Zal:List WE->List Value
 | []=>[]
 | e::l=>.bool e.neg :: .slice e.A e.n e.c::Zal l
def Zbv(es:List WE):Array Value:=(Zal es).toArray
theorem Zbc(es:List WE):(Zal es).length=es.length*2:=by
 induction es with
 | nil=>rfl
 | cons e l ih=>simp only[Zal,Yj,ih];omega
theorem Znx{es:List WE}{i:Nat}{e:WE}(h:es[i]?=some e):(Zal es)[i*2]?=some (.bool e.neg)/\(Zal es)[i*2+1]?=some (.slice e.A e.n e.c):=by
 induction es generalizing i with
 | nil=>simp at h
 | cons a l ih =>
  cases i with
  | zero=>simp at h;subst h;exact⟨rfl,rfl⟩
  | succ i =>
   have:=ih (i:=i) (by simpa using h);rw[show (i+1)*2=i*2+1+1 by omega];simpa [Zal]using this
theorem Zv6{es:List WE}{i:Nat}(e:WE)(h:i<es.length):((Zal es).set (i*2) (.bool e.neg)).set (i*2+1) (.slice e.A e.n e.c)=Zal (es.set i e):=by
 induction es generalizing i with
 | nil=>simp at h
 | cons a l ih =>
  cases i with
  | zero=>rfl
  | succ i =>
   have:=ih (i:=i) (by simpa using h);rw[show (i+1)*2=i*2+1+1 by omega];simp only[Zal,Yb,this]
theorem Zo1(es:List WE):∀ (i x:Nat),(Zal es)[i]?≠some (limb x):=by
 induction es with
 | nil=>intro i x;simp[Zal]
 | cons a l ih =>
  intro i x
  match i with
  | 0=>simp[Zal]
  | 1=>simp[Zal]
  | i+2=>simpa [Zal]using ih i x
theorem Zjw{es:List WE}{i:Nat}{e:WE}(h:es[i]?=some e):(Zbv es)[i*2]?=some (.bool e.neg)/\(Zbv es)[i*2+1]?=some (.slice e.A e.n e.c):=by
 simpa [Zbv]using Znx h
theorem Zu4{es:List WE}{i:Nat}(e:WE)(h:i<es.length):((Zbv es).setIfInBounds (i*2) (.bool e.neg)).setIfInBounds (i*2+1) (.slice e.A e.n e.c)=Zbv (es.set i e):=by
 unfold Zbv;rw[<- Zv6 e h];simp
theorem Zdm(es:List WE):NoLimb (Zbv es):=λi x=>by simpa [Zbv]using Zo1 es i x
theorem Zho(es:List WE)(i:Nat)(b:Bool):NoLimb ((Zbv es).setIfInBounds i (.bool b)):=λj x=>by
 rw[QL]
 split
 ·split <;> simp
 exact Zdm es j x
def POwn(t:TypeId)(w:World)(g:Nat)(xs:List Int):Prop:=
 ∃ es:List WE,Blk w g t (Zbv es)/\(∀ e ∈ es,Lim w e.A e.n e.c e.l/\e.ok=true)/\es.map WE.num=xs
section
variable{t:TypeId}{w w':World}{g:Nat}{xs:List Int}
theorem POwn.below(h:POwn t w g xs)(hb:Below w.heap.size w w'):POwn t w' g xs:=by
 obtain⟨es,h1,h2,h3⟩:=h;exact⟨es,Zc hb h1,λe he=>⟨(h2 e he).1.below hb,(h2 e he).2⟩,h3⟩
theorem POwn.lt(h:POwn t w g xs):g<w.heap.size:=by obtain⟨es,h1,_⟩:=h;exact h1.lt
theorem POwn.frozen(h:POwn t w g xs)(i:Nat):w.frozen? ⟨g,i,none⟩=false:=by obtain⟨es,h1,_⟩:=h;exact h1.frozen i
theorem POwn.at_(h:POwn t w g xs){i:Nat}(hi:i<xs.length):∃ neg A n c,w.cell? ⟨g,i*2,none⟩=some (.bool neg)/\w.cell? ⟨g,i*2+1,none⟩=some (.slice A n c)/\Wd w neg A n c (xs[i]?.getD 0):=by
 obtain⟨es,h1,h2,rfl⟩:=h;have hl:i<es.length:=by simpa using hi
 have he:=Qb hl;have hc:=Zjw he;have hm:=h2 es[i] (QQ hl);refine⟨es[i].neg,es[i].A,es[i].n,es[i].c,by rw[h1.cell];exact hc.1,by rw[h1.cell];exact hc.2,?_⟩;rw[Qd,he];exact WE.wd hm.1 hm.2
theorem POwn.set_(h:POwn t w g xs){i:Nat}(hi:i<xs.length){neg:Bool}{A:Option Addr}{n c:Nat}{z:Int}(hz:Wd w neg A n c z) :
    POwn t ((w.setCell ⟨g,i*2,none⟩ (.bool neg)).setCell ⟨g,i*2+1,none⟩ (.slice A n c)) g (xs.set i z):=by
 obtain⟨es,h1,h2,rfl⟩:=h;have hl:i<es.length:=by simpa using hi
 have f:Blk (w.setCell ⟨g,i*2,none⟩ (.bool neg)) g t ((Zbv es).setIfInBounds (i*2) (.bool neg)):=h1.set_ _ _;have o:=f.set_ (i*2+1) (.slice A n c);have hs:=Zu4 (es:=es) (i:=i) ⟨neg,A,n,c,digits z.natAbs⟩ hl;dsimp only at hs;rw[hs]at o;have keep:∀ (A':Option Addr) (n' c':Nat) (l:List Nat),Lim w A' n' c' l->Lim ((w.setCell ⟨g,i*2,none⟩ (.bool neg)).setCell ⟨g,i*2+1,none⟩ (.slice A n c)) A' n' c' l:=λ_ _ _ _ h=>(h.set_box h1 (Zdm es) _ _).set_box f (Zho _ _ _) _ _;refine⟨_,o,λe he=>?_,?_⟩
 ·rcases Qv he with he|rfl
  exact⟨keep _ _ _ _ (h2 e he).1,(h2 e he).2⟩;exact⟨keep _ _ _ _ hz.2.2,hz.ok⟩
 rw[QH];congr 1;exact hz.sgEq
end
def Zcs:WE:=⟨false,none,0,0,[]⟩
theorem Zlt(n:Nat):Zal (Qf n Zcs)=(madeCells #[.bool false,.slice none 0 0] (n*2)).toList:=by
 apply Qs;intro i
 have hm:(madeCells #[.bool false,.slice none 0 0] (n*2)).toList[i]?=if i<n*2 then some ((#[Value.bool false,Value.slice none 0 0])[i%2]!)else none:=by
  unfold madeCells;by_cases h:i<n*2;simp[h];simp[h]
 rw[hm];by_cases h:i<n*2
 ·rw[Gx h]
  have he:(Qf n Zcs)[i/2]?=some Zcs:=by rw[QF,Gx Gk]
  have hc:=Znx he;rcases QM i with h2|h2;rw[show i/2*2=i by omega]at hc;rw[hc.1,h2];rfl;rw[show i/2*2+1=i by omega]at hc;rw[hc.2,h2];rfl
 rw[Gw h];exact Qe (by rw[Zbc];simp;omega)
theorem makeW{P:Program}(t e:TypeId){i:TypeInfo}(ht:P.underlying t=some (.slice e))(hi:P.info? e=some i)(hz:i.zero=some (.agg #[.bool false,.slice none 0 0]))(hs:i.size=2)(hb:i.bytes=32)
    (x:Int) (n:Nat) (hx:x=n) (hn:n<=1000000000000) (W:World) :
    (Instr.makeSlice t (.int .i64 x) (.int .i64 x)).run P W=.ok (.slice (some ⟨W.heap.size,0,none⟩) n n) (W.alloc (.cells (Zbv (Qf n Zcs)) e)):=by
 subst hx;have hr:=run_make (P:=P) W t e i _ ht hi hz .i64 .i64 n n Gk Gk (by rw[hb];omega) Gk;simp only[Int.toNat_natCast]at hr;rw[hr]
 have:madeCells (Value.agg #[.bool false,.slice none 0 0]).cells (n*i.size)=Zbv (Qf n Zcs):=by
  rw[hs];apply Array.toList_inj.1;unfold Zbv;rw[Zlt];rfl
 rw[this]
theorem POwn.new(t:TypeId)(w:World)(n:Nat):POwn t (w.alloc (.cells (Zbv (Qf n Zcs)) t)) w.heap.size (Qf n 0):=
 ⟨Qf n Zcs,Blk.new _ _ _,λe he=>by rw[(List.mem_replicate.1 he).2];exact⟨Lim.nil _ _ _ (Qw _),rfl⟩,by simp[Zcs,WE.num,sg,val]⟩
theorem Zc4(es fs:List WE):Zal (es++fs)=Zal es++Zal fs:=by
 induction es with
 | nil=>rfl
 | cons e l ih=>simp only[List.cons_append,Zal,ih]
theorem Zvw(fs:List WE):∀ u ∈ Zal fs,u.oneCell'=true:=by
 induction fs with
 | nil=>intro u h;simp[Zal]at h
 | cons e l ih =>
  intro u h;simp only[Zal,List.mem_cons]at h;rcases h with rfl|rfl|h;rfl;rfl;exact ih u h
theorem Ziz(k:Nat):(Qj #[.bool false,.slice none 0 0] k).toList=Zal (Qf k Zcs):=by
 rw[Zlt];unfold Qj madeCells;apply Qs;intro i;by_cases h:i<k*2;simp[h];simp[h]
def RowW(t:TypeId)(w:World)(base:Nat)(v:Value)(es:List WE):Prop:=
 (v=.slice none 0 0/\es=[]) \/ ∃ g sp,v=.slice (some ⟨g,0,none⟩) es.length (es.length+sp)/\base<=g/\es.length+sp<=maxLen/\Blk w g t (Zbv (es++Qf sp Zcs))
section
variable{t:TypeId}{w w':World}{base:Nat}{v:Value}{es:List WE}
theorem RowW.own(h:RowW t w base v es):w.ownsRow base t 2 v es.length (Zal es):=by
 refine⟨Zbc es,?_⟩;rcases h with ⟨h1,rfl⟩|⟨g,sp,h1,h2,h3,h4⟩;exact .inl ⟨h1,rfl⟩;refine .inr ⟨g,_,_,h1,h2,h4,QS _ _,h3,?_,?_⟩;simp[Zbv,Zbc];simp only[Zbv];rw[Zc4,<- Zbc es];exact QX
theorem RowW.row_ge(h:RowW t w base v es):∀ k,v.ownBlock=some k->base<=k:=λk hk=>(h.own.lt k hk).1
theorem RowW.kept(h:RowW t w base v es)(hb:Below w.heap.size w w'):RowW t w' base v es:=by
 exact FJ
theorem RowW.keep(h:RowW t w base v es)(hg:w.grownBy w' v.ownBlock){A:Option Addr}{n c:Nat}{l:List Nat}(hL:Lim w A n c l):Lim w' A n c l:=by
 refine⟨hL.1,hL.2.1,hL.2.2.1,hL.2.2.2.1,λhn=>?_⟩;obtain⟨b,o,e,hc⟩:=hL.2.2.2.2 hn;refine⟨b,o,e,λk hk=>?_⟩;rw[<- hc k hk];refine QI (hg.block b (Zo (hc k hk)) (λe'=>?_));rcases h with ⟨rfl,_⟩|⟨g,sp,rfl,_,_,h4⟩;cases e';have f:b=g:=by simpa [Value.ownBlock]using e'
 subst f;have h1:=hc k hk;rw[h4.cell]at h1;exact Zdm _ _ _ h1
end
section
variable{P:Program}(w:World)
end
def OwnP(t:TypeId)(w:World)(base:Nat)(v:Value)(xs:List Int):Prop:=∃ es,RowW t w base v es/\(∀ e ∈ es,Lim w e.A e.n e.c e.l/\e.ok=true)/\es.map WE.num=xs
section
variable{t:TypeId}{w w':World}{base:Nat}{v:Value}{xs:List Int}
theorem OwnP.nil(t:TypeId)(w:World)(base:Nat):OwnP t w base (.slice none 0 0) []:=⟨[],.inl ⟨rfl,rfl⟩,λe h=>by simp at h,rfl⟩
theorem OwnP.kept(h:OwnP t w base v xs)(hb:Below w.heap.size w w'):OwnP t w' base v xs:=by
 obtain⟨es,h1,h2,h3⟩:=h;exact⟨es,h1.kept hb,λe he=>⟨(h2 e he).1.below hb,(h2 e he).2⟩,h3⟩
theorem OwnP.row_ge(h:OwnP t w base v xs):∀ k,v.ownBlock=some k->base<=k:=by obtain⟨es,h1,_⟩:=h;exact h1.row_ge
theorem OwnP.poly(h:OwnP t w base v xs):∃ A c,v=.slice A xs.length c/\PolyL w A xs.length c xs:=by
 obtain⟨es,h1,h2,rfl⟩:=h;rcases h1 with ⟨rfl,rfl⟩|⟨g,sp,rfl,h4,h5,h6⟩;exact⟨none,0,rfl,[],⟨rfl,Qa _,Qw _,λh=>absurd h Gh,λe h=>by simp at h⟩,rfl,λe h=>by simp at h⟩;rw[QJ];refine⟨_,es.length+sp,rfl,es,⟨rfl,QS _ _,h5,λ_=>⟨g,0,rfl,λk e he=>?_⟩,λe he=>(h2 e he).1⟩,rfl,λe he=>(h2 e he).2⟩;have hk:k<es.length:=(List.getElem?_eq_some_iff.1 he).1;have hc:=Zjw (es:=es++Qf sp Zcs) (i:=k) (e:=e) (by rw[QC hk];exact he);rw[Yc,h6.cell,h6.cell];exact hc
theorem Zgq(b:Bool)(A:Option Addr)(n c:Nat):NoLimb #[.bool b,.slice A n c]:=λi x=>by
 match i with
 | 0=>simp
 | 1=>simp
 | i+2=>simp
theorem Wd.of_keep{neg:Bool}{A:Option Addr}{n c:Nat}{z:Int}(hk:∀ (A:Option Addr) (n c:Nat) (l:List Nat),Lim w A n c l->Lim w' A n c l)(h:Wd w neg A n c z):Wd w' neg A n c z:=⟨h.1,h.2.1,hk _ _ _ _ h.2.2⟩
end
theorem OwnP.snoc{t:TypeId}{w:World}{base:Nat}{v:Value}{xs:List Int}{neg:Bool}{A:Option Addr}{n c:Nat}{z:Int}{W:World}(h:OwnP t w base v (xs ++ [⟨neg,A,n,c,digits z.natAbs⟩].map WE.num))(hW:Wd W neg A n c z):OwnP t w base v (xs ++ [z]):=by
 rw[List.map_cons,List.map_nil,show WE.num ⟨neg,A,n,c,digits z.natAbs⟩=z from hW.sgEq]at h;exact h
section
variable{P:Program}(w:World)
end
structure RS where
 A:Option Addr
 n:Nat
 c:Nat
def RS.val(r:RS):Value:=.slice r.A r.n r.c
def Zaq:List RS->List Value
 | []=>[]
 | e::l=>.slice e.A e.n e.c::Zaq l
def Z5(es:List RS):Array Value:=(Zaq es).toArray
def Za5:RS:=⟨none,0,0⟩
theorem Zbl(es:List RS):(Zaq es).length=es.length*1:=by
 induction es with
 | nil=>rfl
 | cons e l ih=>simp only[Zaq,Yj,ih];omega
theorem Zcm(es:List RS):Zaq es=es.map RS.val:=by
 induction es with
 | nil=>rfl
 | cons e l ih=>simp only[Zaq,List.map_cons,ih];rfl
theorem Zwi{es:List RS}{i:Nat}{e:RS}(h:es[i]?=some e):(Zaq es)[i]?=some (.slice e.A e.n e.c):=by
 rw[Zcm,Qd,h];rfl
theorem Zb6{es:List RS}{i:Nat}{e:RS}(h:es[i]?=some e):(Z5 es)[i]?=some (.slice e.A e.n e.c):=by simpa [Z5]using Zwi h
theorem Zow(es:List RS):∀ (i x:Nat),(Zaq es)[i]?≠some (limb x):=by
 intro i x;rw[Zcm,Qd];cases es[i]? with
 | none=>simp
 | some e=>simp[RS.val]
theorem Zba(es:List RS):NoLimb (Z5 es):=λi x=>by simpa [Z5]using Zow es i x
theorem Zc2(es fs:List RS):Zaq (es++fs)=Zaq es++Zaq fs:=by simp only[Zcm,List.map_append]
theorem Zwo(fs:List RS):∀ u ∈ Zaq fs,u.oneCell'=true:=by
 intro u h;rw[Zcm]at h;obtain⟨r,-,rfl⟩:=List.mem_map.1 h;rfl
theorem Zdr{es:List RS}{i:Nat}(e:RS):(Z5 es).setIfInBounds i (.slice e.A e.n e.c)=Z5 (es.set i e):=by
 unfold Z5;rw[Zcm,Zcm,QH];simp[RS.val]
theorem Zi4(k:Nat):(Qj #[.slice none 0 0] k).toList=Zaq (Qf k Za5):=by
 rw[Zcm];unfold Qj;apply Qs;intro i;by_cases h:i<k;simp[h,Za5,RS.val,QF,Nat.mod_one];simp[h,QF]
def RowS(t:TypeId)(w:World)(base:Nat)(v:Value)(es:List RS):Prop:=
 (v=.slice none 0 0/\es=[]) \/ ∃ g sp,v=.slice (some ⟨g,0,none⟩) es.length (es.length+sp)/\base<=g/\es.length+sp<=maxLen/\Blk w g t (Z5 (es++Qf sp Za5))
section
variable{t:TypeId}{w w':World}{base:Nat}{v:Value}{es:List RS}
theorem RowS.own(h:RowS t w base v es):w.ownsRow base t 1 v es.length (Zaq es):=by
 refine⟨Zbl es,?_⟩;rcases h with ⟨h1,rfl⟩|⟨g,sp,h1,h2,h3,h4⟩;exact .inl ⟨h1,rfl⟩;refine .inr ⟨g,_,_,h1,h2,h4,QS _ _,h3,?_,?_⟩;simp[Z5,Zbl];simp only[Z5];rw[Zc2,<- Zbl es];exact QX
theorem RowS.row_ge(h:RowS t w base v es):∀ k,v.ownBlock=some k->base<=k:=λk hk=>(h.own.lt k hk).1
theorem RowS.kept(h:RowS t w base v es)(hb:Below w.heap.size w w'):RowS t w' base v es:=by
 exact FJ
theorem RowS.keep(h:RowS t w base v es)(hg:w.grownBy w' v.ownBlock){A:Option Addr}{n c:Nat}{l:List Nat}(hL:Lim w A n c l):Lim w' A n c l:=by
 refine⟨hL.1,hL.2.1,hL.2.2.1,hL.2.2.2.1,λhn=>?_⟩;obtain⟨b,o,e,hc⟩:=hL.2.2.2.2 hn;refine⟨b,o,e,λk hk=>?_⟩;rw[<- hc k hk];refine QI (hg.block b (Zo (hc k hk)) (λe'=>?_));rcases h with ⟨rfl,_⟩|⟨g,sp,rfl,_,_,h4⟩;cases e';have f:b=g:=by simpa [Value.ownBlock]using e'
 subst f;have h1:=hc k hk;rw[h4.cell]at h1;exact Zba _ _ _ h1
end
section
variable{P:Program}(w:World)
theorem Znj(base:Nat)(t ty e:TypeId)(i:TypeInfo)(ht:P.underlying t=some (.slice e))(hi:P.info? e=some i)(hz:i.zero=some (.slice none 0 0))
    (hs:i.size=1) (hby:i.bytes=24) (v:Value) (es:List RS) (ai:RowS e w base v es)
    (B:Nat) (A:Option Addr) (m c:Nat) (fs:List RS) (hr:Reads w B 1 A m (Zaq fs)) (hm:fs.length=m) (h63:es.length+m<=1000) (hbase:base<=w.heap.size) :
    ∃ v' w',(Builtin.append_ #[t,t] ty #[v,.slice A m c]).run P w=.ok v' w'/\RowS e w' base v' (es++fs)/\w.grownBy w' v.ownBlock:=by
 rcases Nat.eq_zero_or_pos m with h0|h0
 ·subst h0
  obtain rfl:fs=[]:=List.eq_nil_of_length_eq_zero hm;rw[List.append_nil];rcases A with _|ad;exact⟨v,w,Zcj w base t ty e i 1 ht hi v _ _ ai.own c,ai,World.grownBy.refl w _⟩;exact ET
 obtain⟨ad,rfl,_,hc⟩:=hr.2 h0;have hl:(Zaq fs).length=m*i.size:=by rw[Zbl,hm,hs]
 have y:es.length*i.size=(Zaq es).length:=by rw[Zbl,hs]
 rcases ai with ⟨rfl,rfl⟩|⟨g,sp,rfl,h2,h3,h4⟩
 ·have f:=run_append_nil (P:=P) w t ty e i _ ht hi hz ad m c (Zaq fs) hl hc h0 Gk (by rw[hby];omega)
  have h:=grownCap_ge w m 0 e;have o:=grownCap_le_maxLen w m 0 e (by unfold maxLen;simp only[List.length_nil]at h63;omega);refine⟨_,_,f,.inr ⟨w.heap.size,grownCap w m 0 e-m,?_,hbase,?_,?_⟩,⟨rfl,rfl,rfl,by simp,λk hk _=>Below.heap_alloc w.drew _ k hk⟩⟩;rw[Yn,hm,QB h];rw[Yn,hm,QB h];exact o;have:=heap_alloc_new w.drew (.cells ((Zaq fs).toArray++Qj (Value.slice none 0 0).cells (grownCap w m 0 e-m)) e);unfold Blk;refine this.trans ?_;congr 1
  have hx:(Zaq fs).toArray++Qj (Value.slice none 0 0).cells (grownCap w m 0 e-m)=Z5 ([]++fs++Qf (grownCap w m 0 e-m) Za5):=by
   apply Array.toList_inj.1;rw[QK,show (Value.slice none 0 0).cells=#[.slice none 0 0] from rfl,Zi4];simp[Z5,Zc2]
  rw[hx]
 by_cases hroom:m<=sp
 ·have f:=run_append_room (P:=P) w t ty e i ht hi g es.length (es.length+sp) _ h4 ad m c (Zaq fs) hl hc (Zwo fs) Gk (by rw[y,Zbl,Zbl];simp[Z5,Zbl];omega)
  refine⟨_,_,f,.inr ⟨g,sp-m,?_,h2,?_,?_⟩,⟨rfl,rfl,rfl,by simp[World.setRow],λk _ hk=>setRow_other w g k _ (λe'=>hk (by simp[Value.ownBlock,e']))⟩⟩;rw[Qq,hm,show es.length+m+(sp-m)=es.length+sp by omega];rw[Qq,hm];omega;refine(setRow_heap w g _ _ e _ h4).trans ?_;congr 2;unfold Z5;congr 1;rw[y];have I:Qf sp Za5=Qf m Za5++Qf (sp-m) Za5:=by rw[List.replicate_append_replicate];congr 1;omega
  have J:(Zaq fs).length=(Zaq (Qf m Za5)).length:=by rw[Zbl,Zbl,hm,List.length_replicate]
  simp only[Zc2];rw[QX,J,<- Qq,I,Zc2,<- Yf (Zaq es),List.drop_left,Yf]
 have C:∀ j u,(Zaq es)[j]?=some u->w.cell? ((⟨g,0,none⟩:Addr).add j)=some u:=λj u hu=>by
   rw[Zg,Yc,h4.cell];simp only[Z5,List.getElem?_toArray,Zc2];exact Fi
 have f:=run_append_grow (P:=P) w t ty e i _ ht hi hz ⟨g,0,none⟩ es.length (es.length+sp) (Zaq es) y.symm C ad m c (Zaq fs) hl hc Gk Gk (growslice_fits Gk (by rw[hby];omega));have h:=grownCap_ge w (es.length+m) (es.length+sp) e;have o:=grownCap_le_maxLen w (es.length+m) (es.length+sp) e (by unfold maxLen;omega);refine⟨_,_,f,.inr ⟨w.heap.size,grownCap w (es.length+m) (es.length+sp) e-(es.length+m),?_,hbase,?_,?_⟩,⟨rfl,rfl,rfl,by simp,λk hk _=>Below.heap_alloc w.drew _ k hk⟩⟩;rw[Qq,hm,QB h];rw[Qq,hm,QB h];exact o;have:=heap_alloc_new w.drew (.cells ((Zaq es).toArray++(Zaq fs).toArray++Qj (Value.slice none 0 0).cells (grownCap w (es.length+m) (es.length+sp) e-(es.length+m))) e);unfold Blk;refine this.trans ?_;congr 1
 have hx:(Zaq es).toArray++(Zaq fs).toArray++Qj (Value.slice none 0 0).cells (grownCap w (es.length+m) (es.length+sp) e-(es.length+m))=Z5 (es++fs++Qf (grownCap w (es.length+m) (es.length+sp) e-(es.length+m)) Za5):=by
  apply Array.toList_inj.1;rw[QK,QK,show (Value.slice none 0 0).cells=#[.slice none 0 0] from rfl,Zi4];simp[Z5,Zc2]
 rw[hx]
end
structure Kept (G:Nat->Prop) (w w':World):Prop where
 os:w'.os=w.os
 tape:w'.tape=w.tape
 output:w'.output=w.output
 size:w.heap.size<=w'.heap.size
 block:∀ k,k<w.heap.size->¬ G k->w'.heap[k]?=w.heap[k]?
section
variable{G:Nat->Prop}{w w' w'':World}
theorem Kept.refl(G:Nat->Prop)(w:World):Kept G w w:=⟨rfl,rfl,rfl,Qa _,λ_ _ _=>rfl⟩
theorem Kept.trans(h:Kept G w w')(k:Kept G w' w''):Kept G w w'':=
 ⟨k.os.trans h.os,k.tape.trans h.tape,k.output.trans h.output,Ql h.size k.size,λi hi hg=>(k.block i (Qh hi h.size) hg).trans (h.block i hi hg)⟩
theorem Kept.of_below(h:Below w.heap.size w w'):Kept G w w':=⟨h.os,h.tape,h.output,h.size,λk hk _=>h.block k hk⟩
theorem Kept.below(h:Kept G w w')(k:Below w'.heap.size w' w''):Kept G w w'':=h.trans (Kept.of_below k)
theorem Kept.drewN(h:Kept G w w')(n:Nat):Kept G w (w'.drewN n):=⟨h.os,h.tape,h.output,h.size,h.block⟩
theorem Kept.set_(h:Kept G w w'){p:Addr}(hp:G p.block \/ w.heap.size<=p.block)(u:Value):Kept G w (w'.setCell p u):=
 ⟨h.os,h.tape,h.output,by simp[World.setCell];exact h.size,λk hk hg=>(Below.heap_setCell w' p u k (by rcases hp with hp|hp;exact λe=>hg (e▸hp);omega)).trans (h.block k hk hg)⟩
theorem Kept.blk(h:Kept G w w'){g:Nat}{t:TypeId}{cs:Array Value}(hb:Blk w g t cs)(hg:¬ G g):Blk w' g t cs:=(h.block g hb.lt hg).trans hb
theorem Kept.to_below{B:Nat}(h:Kept G w w')(hG:∀ k,G k->B<=k)(hB:B<=w.heap.size):Below B w w':=
 ⟨h.os,h.tape,h.output,h.size,λk hk=>h.block k (Qh hk hB) (λhg=>by have:=hG k hg;omega)⟩
theorem Kept.mono{G':Nat->Prop}(h:Kept G w w')(hG:∀ k,k<w.heap.size->G k->G' k):Kept G' w w':=⟨h.os,h.tape,h.output,h.size,λk hk hg=>h.block k hk (λh=>hg (hG k hk h))⟩
theorem Kept.lim(h:Kept G w w'){A:Option Addr}{n c:Nat}{l:List Nat}(hl:Lim w A n c l)(hG:∀ k,G k->∃ t cs,Blk w k t cs/\NoLimb cs):Lim w' A n c l:=
 ⟨hl.1,hl.2.1,hl.2.2.1,hl.2.2.2.1,λhn=>by
  obtain⟨b,o,e,hc⟩:=hl.2.2.2.2 hn;refine⟨b,o,e,λk hk=>?_⟩;have h0:=hc k hk;refine(QI (w:=w) (h.block b (Zo h0) (λhg=>?_))).trans h0;obtain⟨t,cs,h1,h2⟩:=hG b hg;have h3:=h0;rw[h1.cell]at h3;exact h2 _ _ h3⟩
theorem Kept.wd(h:Kept G w w'){neg:Bool}{A:Option Addr}{n c:Nat}{z:Int}(hl:Wd w neg A n c z)(hG:∀ k,G k->∃ t cs,Blk w k t cs/\NoLimb cs):Wd w' neg A n c z:=⟨hl.1,hl.2.1,h.lim hl.2.2 hG⟩
end
section
variable{t:TypeId}{w:World}{g:Nat}{xs zs:List Int}
theorem POwn.box(h:POwn t w g xs):∃ t cs,Blk w g t cs/\NoLimb cs:=by
 obtain⟨es,h1,-,-⟩:=h;exact⟨t,_,h1,Zdm es⟩
theorem POwn.other{t':TypeId}{g':Nat}{ys:List Int}(h:POwn t w g xs)(h':POwn t' w g' ys)(hne:g≠g')(i:Nat)(b:Bool)(A:Option Addr)(n c:Nat) :
    POwn t ((w.setCell ⟨g',i*2,none⟩ (.bool b)).setCell ⟨g',i*2+1,none⟩ (.slice A n c)) g xs:=by
 obtain⟨es,h1,h2,h3⟩:=h;obtain⟨fs,k1,-,-⟩:=h';refine⟨es,(h1.far hne _).far hne _,λe he=>⟨?_,(h2 e he).2⟩,h3⟩;exact((h2 e he).1.set_box k1 (Zdm fs) _ _).set_box (k1.set_ (i*2) (.bool b)) (Zho _ _ _) _ _
end
theorem Zv2{es:List FE}{i:Nat}(e:FE)(h:i<es.length):((((Zp es).set (i*4) (.bool e.na)).set (i*4+1) (.slice e.A e.n e.c)).set (i*4+2) (.bool e.nb)).set (i*4+3) (.slice e.B e.m e.d)=Zp (es.set i e):=by
 induction es generalizing i with
 | nil=>simp at h
 | cons a l ih =>
  cases i with
  | zero=>rfl
  | succ i =>
   have:=ih (i:=i) (by simpa using h);rw[show (i+1)*4=i*4+1+1+1+1 by omega];simp only[Zp,Yb,this]
theorem Zhw{es:List FE}{i:Nat}(e:FE)(h:i<es.length):((((Zx es).setIfInBounds (i*4) (.bool e.na)).setIfInBounds (i*4+1) (.slice e.A e.n e.c)).setIfInBounds (i*4+2) (.bool e.nb)).setIfInBounds (i*4+3) (.slice e.B e.m e.d)=Zx (es.set i e):=by
 unfold Zx;rw[<- Zv2 e h];simp
theorem Zgr{cs:Array Value}(h:NoLimb cs)(i:Nat){v:Value}(hv:∀ x,v≠limb x):NoLimb (cs.setIfInBounds i v):=λj x=>by
 rw[QL]
 split
 ·split
  simpa using hv x;simp
 exact h j x
def Zgh(w:World)(g i:Nat)(na:Bool)(A:Option Addr)(n c:Nat)(nb:Bool)(B:Option Addr)(m d:Nat):World:=
 (((w.setCell ⟨g,i*4,none⟩ (.bool na)).setCell ⟨g,i*4+1,none⟩ (.slice A n c)).setCell ⟨g,i*4+2,none⟩ (.bool nb)).setCell ⟨g,i*4+3,none⟩ (.slice B m d)
section
variable{w:World}{g i:Nat}{na:Bool}{A:Option Addr}{n c:Nat}{nb:Bool}{B:Option Addr}{m d:Nat}
theorem Zgi{A':Option Addr}{n' c':Nat}{l:List Nat}{t:TypeId}{cs:Array Value}(h:Lim w A' n' c' l)(hb:Blk w g t cs)(hcs:NoLimb cs):Lim (Zgh w g i na A n c nb B m d) A' n' c' l:=by
 have h1:=hb.set_ (i*4) (.bool na);have l1:=Zgr hcs (i*4) (v:=.bool na) (λx=>by simp);have h2:=h1.set_ (i*4+1) (.slice A n c);have l2:=Zgr l1 (i*4+1) (v:=.slice A n c) (λx=>by simp);have h3:=h2.set_ (i*4+2) (.bool nb);have l3:=Zgr l2 (i*4+2) (v:=.bool nb) (λx=>by simp);exact(((h.set_box hb hcs _ _).set_box h1 l1 _ _).set_box h2 l2 _ _).set_box h3 l3 _ _
theorem Zit{na':Bool}{A':Option Addr}{n' c':Nat}{nb':Bool}{B':Option Addr}{m' d':Nat}{r:Rat}{t:TypeId}{cs:Array Value}(h:Fr w na' A' n' c' nb' B' m' d' r)(hb:Blk w g t cs)(hcs:NoLimb cs):Fr (Zgh w g i na A n c nb B m d) na' A' n' c' nb' B' m' d' r:=
 ⟨⟨h.1.1,h.1.2.1,Zgi h.1.2.2 hb hcs⟩,⟨h.2.1,h.2.2.1,Zgi h.2.2.2 hb hcs⟩⟩
theorem Zkc{g':Nat}{t:TypeId}{cs:Array Value}(h:Blk w g' t cs)(hg:g'≠g):Blk (Zgh w g i na A n c nb B m d) g' t cs:=(((h.far hg _).far hg _).far hg _).far hg _
theorem Zqa{G:Nat->Prop}{w0:World}(h:Kept G w0 w)(hg:G g \/ w0.heap.size<=g):Kept G w0 (Zgh w g i na A n c nb B m d):=
 (((h.set_ (p:=⟨g,i*4,none⟩) hg _).set_ (p:=⟨g,i*4+1,none⟩) hg _).set_ (p:=⟨g,i*4+2,none⟩) hg _).set_ (p:=⟨g,i*4+3,none⟩) hg _
theorem Zjn{b:Nat}{w0:World}(h:Below b w0 w)(hg:b<=g):Below b w0 (Zgh w g i na A n c nb B m d):=
 (((h.setCell (p:=⟨g,i*4,none⟩) hg _).setCell (p:=⟨g,i*4+1,none⟩) hg _).setCell (p:=⟨g,i*4+2,none⟩) hg _).setCell (p:=⟨g,i*4+3,none⟩) hg _
end
def FRaw(t:TypeId)(w:World)(g n:Nat):Prop:=∃ es:List FE,Blk w g t (Zx es)/\n<=es.length
def FOwn(t:TypeId)(w:World)(g:Nat)(qs:List Rat):Prop:=∃ es zs:List FE,Blk w g t (Zx (es++zs))/\(∀ e ∈ es,e.in_ w)/\es.map FE.q=qs
section
variable{t:TypeId}{w w':World}{g:Nat}{qs:List Rat}
theorem FRaw.lt{n:Nat}(h:FRaw t w g n):g<w.heap.size:=by obtain⟨es,h1,h2⟩:=h;exact h1.lt
theorem FRaw.box{n:Nat}(h:FRaw t w g n):∃ t cs,Blk w g t cs/\NoLimb cs:=by obtain⟨es,h1,h2⟩:=h;exact⟨t,_,h1,Zcb es⟩
theorem FRaw.cells{n i:Nat}(h:FRaw t w g n)(hi:i<n):∃ na A k c nb B m d,w.cell? ⟨g,i*4,none⟩=some (.bool na)/\w.cell? ⟨g,i*4+1,none⟩=some (.slice A k c)/\w.cell? ⟨g,i*4+2,none⟩=some (.bool nb)/\w.cell? ⟨g,i*4+3,none⟩=some (.slice B m d):=by
 obtain⟨es,h1,hn⟩:=h;have hc:=Zdz (Qb (show i<es.length by omega));exact⟨_,_,_,_,_,_,_,_,by rw[h1.cell];exact hc.1,by rw[h1.cell];exact hc.2.1,by rw[h1.cell];exact hc.2.2.1,by rw[h1.cell];exact hc.2.2.2⟩
theorem FRaw.frozen{n:Nat}(h:FRaw t w g n)(i:Nat):w.frozen? ⟨g,i,none⟩=false:=by obtain⟨es,h1,-⟩:=h;exact h1.frozen i
theorem FOwn.raw(h:FOwn t w g qs):FRaw t w g qs.length:=by obtain⟨es,zs,h1,h2,rfl⟩:=h;exact⟨es++zs,h1,by simp⟩
theorem FOwn.below(h:FOwn t w g qs)(hb:Below w.heap.size w w'):FOwn t w' g qs:=by
 obtain⟨es,zs,h1,h2,h3⟩:=h;exact⟨es,zs,Zc hb h1,λe he=>(h2 e he).below hb,h3⟩
theorem FOwn.lt(h:FOwn t w g qs):g<w.heap.size:=h.raw.lt
theorem FOwn.box(h:FOwn t w g qs):∃ t cs,Blk w g t cs/\NoLimb cs:=h.raw.box
theorem FOwn.frozen(h:FOwn t w g qs)(i:Nat):w.frozen? ⟨g,i,none⟩=false:=h.raw.frozen i
theorem FOwn.at_(h:FOwn t w g qs){i:Nat}(hi:i<qs.length):∃ na A k c nb B m d,w.cell? ⟨g,i*4,none⟩=some (.bool na)/\w.cell? ⟨g,i*4+1,none⟩=some (.slice A k c)/\w.cell? ⟨g,i*4+2,none⟩=some (.bool nb)/\w.cell? ⟨g,i*4+3,none⟩=some (.slice B m d)/\Fr w na A k c nb B m d (qs[i]?.getD 0):=by
 obtain⟨es,zs,h1,h2,rfl⟩:=h;have hl:i<es.length:=by simpa using hi
 have he:=Qb hl;have hc:=Zdz (es:=es++zs) (i:=i) (e:=es[i]) (by rw[QC hl];exact he);refine⟨_,_,_,_,_,_,_,_,by rw[h1.cell];exact hc.1,by rw[h1.cell];exact hc.2.1,by rw[h1.cell];exact hc.2.2.1,by rw[h1.cell];exact hc.2.2.2,?_⟩;rw[Qd,he];exact h2 _ (QQ hl)
theorem FOwn.set_(h:FOwn t w g qs){i:Nat}(hi:i<qs.length){na:Bool}{A:Option Addr}{k c:Nat}{nb:Bool}{B:Option Addr}{m d:Nat}{r:Rat}(hr:Fr w na A k c nb B m d r):FOwn t (Zgh w g i na A k c nb B m d) g (qs.set i r):=by
 obtain⟨es,zs,h1,h2,rfl⟩:=h;have hl:i<es.length:=by simpa using hi
 have h3:=(((h1.set_ (i*4) (.bool na)).set_ (i*4+1) (.slice A k c)).set_ (i*4+2) (.bool nb)).set_ (i*4+3) (.slice B m d);have hs:=Zhw (es:=es++zs) (i:=i) ⟨na,A,k,c,nb,B,m,d,r⟩ (by rw[Qq];omega);dsimp only at hs;rw[hs,List.set_append_left _ _ hl]at h3;refine⟨_,zs,h3,λe he=>?_,by rw[QH]⟩;rcases Qv he with he|rfl;exact Zit (h2 e he) h1 (Zcb _);exact Zit hr h1 (Zcb _)
theorem FOwn.other{g' i:Nat}{na:Bool}{A:Option Addr}{k c:Nat}{nb:Bool}{B:Option Addr}{m d:Nat}(h:FOwn t w g qs)(hne:g≠g')(hb:∃ t cs,Blk w g' t cs/\NoLimb cs):FOwn t (Zgh w g' i na A k c nb B m d) g qs:=by
 obtain⟨es,zs,h1,h2,h3⟩:=h;obtain⟨t',cs,hb,f⟩:=hb;exact⟨es,zs,Zkc h1 hne,λe he=>Zit (h2 e he) hb f,h3⟩
theorem FOwn.fl(h:FOwn t w g qs){c:Nat}(hc:qs.length<=c)(hm:c<=maxLen):FL w (some ⟨g,0,none⟩) qs.length c qs:=by
 obtain⟨es,zs,h1,h2,rfl⟩:=h;rw[QJ]at hc ⊢;refine⟨es,rfl,hc,hm,h2,rfl,λ_=>⟨g,0,rfl,λk e he=>?_⟩⟩;have hk:k<es.length:=(List.getElem?_eq_some_iff.1 he).1;have hc:=Zdz (es:=es++zs) (i:=k) (e:=e) (by rw[QC hk];exact he);simp only[Yc,h1.cell];exact hc
theorem OwnF.fown{base:Nat}{v:Value}(h:OwnF t w base v qs):(v=.slice none 0 0/\qs=[]) \/ ∃ g c,v=.slice (some ⟨g,0,none⟩) qs.length c/\base<=g/\qs.length<=c/\c<=maxLen/\FOwn t w g qs:=by
 obtain⟨es,h1,h2,rfl⟩:=h;rcases h1 with ⟨rfl,rfl⟩|⟨g,sp,rfl,h4,h5,h6⟩;exact .inl ⟨rfl,rfl⟩;exact .inr ⟨g,_,by rw[QJ],h4,by rw[QJ];omega,h5,es,Qf sp Zas,h6,h2,rfl⟩
end
theorem CR{G:Prop}(h:G:=by
 have:=Blk.new ((w.alloc (.cells #[.bool na,.slice A n c] 39)).alloc (.cells #[.bool true,.slice B m d] 39)) 41 #[.bool false,.slice none 0 0,.bool false,.slice none 0 0];exact Et):G:=h
theorem CS{G:Prop}(h:G:=by
 have:=(Blk.new (w.alloc (.cells #[.bool na,.slice A n c] 39)) 39 #[.bool true,.slice B m d]).alloc (.cells #[.bool false,.slice none 0 0,.bool false,.slice none 0 0] 41);exact Et):G:=h
theorem Zrb(na:Bool)(A B:Option Addr)(n c m d:Nat)(za zb:Int)(w:World)(ha:Wd w na A n c za)(hb:Wd w true B m d zb)(h0:zb<0) :
    Calls Tryz.prog 33 #[.agg #[.bool na,.slice A n c],.agg #[.bool true,.slice B m d]] w (Zdl w (Qu za zb)):=by
 have d6:=Zdt ha.small hb.small;have hx:=Za (Zki (a:=za) (b:=zb) Gk);have hy:=Za (Zj1 (a:=za) (b:=zb) Gk);have U:=Za (Zma (a:=za) (b:=zb) Gk);have b2:Zgk za zb=-((QP za.natAbs zb.natAbs:Nat):Int):=by unfold Zgk;rw[Gx Gk]
 rw[b2]at hx hy U;have HA:=Za ha;have HB:=Za hb;obtain⟨G,hG⟩:=Gz (QP za.natAbs zb.natAbs);rw[hG]at hx hy U d6
 have HGc:Hid (∀ W:World,Wd W na A n c za->Wd W true B m d zb->Calls Tryz.prog 59 #[.agg #[.bool na,.slice A n c],.agg #[.bool true,.slice B m d]] W (ResW W (G:Int))):=λW h1 h2=>by
  have:=Zmf na true A B n c m d za zb W h1 h2;rw[hG]at this;exact this
 generalize Qu za zb=R at *;clear ha hb hG b2;have a6:∀ X Y Z:Obj,Below w.heap.size w (((w.alloc X).alloc Y).alloc Z):=λX Y Z=>(((Qy w.heap.size w).alloc (Qa _) _).alloc Gh _).alloc Gg _;have a6:=Za a6;go_in;go_wp2_with fail;have q0:Blk (((w.alloc (.cells #[.bool na,.slice A n c] 39)).alloc (.cells #[.bool true,.slice B m d] 39)).alloc (.cells #[.bool false,.slice none 0 0,.bool false,.slice none 0 0] 41)) w.heap.size 39 #[.bool na,.slice A n c]:=((Blk.new _ _ _).alloc _).alloc _
 have q1:Blk (((w.alloc (.cells #[.bool na,.slice A n c] 39)).alloc (.cells #[.bool true,.slice B m d] 39)).alloc (.cells #[.bool false,.slice none 0 0,.bool false,.slice none 0 0] 41)) (w.heap.size+1) 39 #[.bool true,.slice B m d]:=by
  exact CS
 have q2:Blk (((w.alloc (.cells #[.bool na,.slice A n c] 39)).alloc (.cells #[.bool true,.slice B m d] 39)).alloc (.cells #[.bool false,.slice none 0 0,.bool false,.slice none 0 0] 41)) (w.heap.size+1+1) 41 #[.bool false,.slice none 0 0,.bool false,.slice none 0 0]:=by
  exact CR
 refine(HGc.out _ (((HA.out.alloc _).alloc _).alloc _) (((HB.out.alloc _).alloc _).alloc _)).mono ?_;rintro e w1 ⟨u,ng,Ag,kg,cg,code,rfl,hR⟩;rcases hR with ⟨-,rfl,a8⟩|⟨J,-⟩
 case inr=>exact absurd J Gk
 have O:Below w.heap.size w w1:=(a6.out _ _ _).trans (u.mono Gg);have a9:=Za (HA.out.below O);have c4:=Za (HB.out.below O);have s1:w.heap.size+1+1<w1.heap.size:=by have:=u.size;simp at this;omega
 replace q0:=Zc u q0;replace q1:=Zc u q1;replace q2:=Zc u q2;have b8:=Za a8;have s2:w.heap.size+1+1<w1.heap.size:=s1;clear u a8;obtain⟨W3,I,b4,q3,kW,kB,s3⟩:=Zn 39 #[.bool ng,.slice Ag kg cg] O Gk;replace q0:=kB _ _ _ q0;replace q1:=kB _ _ _ q1;replace q2:=kB _ _ _ q2;have y:=Za (kW _ _ _ _ _ a9.out);have C:=Za (kW _ _ _ _ _ c4.out);have o:=Za (kW _ _ _ _ _ b8.out);have s4:w.heap.size+1+1<w1.heap.size:=s2;clear kW kB a9 c4 b8 O;have c0:=Za q0.two;have c1:=Za q1.two;have c3:=Za q3.two;rw[<- I]at c0 c1 c3;obtain⟨a1,a2,-,-⟩:=c0.out;obtain⟨aX,aY,-,-⟩:=c1.out;obtain⟨bF,bG,-,-⟩:=c3.out;have hq:=Za (Qm q0 (Qm q1 (Qm q2 q3)));clear q0 q1 q2 q3;replace I:=Za I;go_wp2_with fail;rw[I.out];refine(rNeg_ok ng Ag kg cg (G:Int) _ o.out).mono ?_;rintro e wn ⟨f,n2,A2,k2,c2,code,rfl,hR⟩;have J:¬ pw 4096<=(-(G:Int)).natAbs:=Gk;rcases hR with ⟨-,rfl,T⟩|⟨a3,-⟩
 case inr=>exact absurd a3 J
 have b1:Below w.heap.size w wn:=b4.trans (f.mono Gk);have HAn:=Za (y.out.below f);have HBn:=Za (C.out.below f);replace T:=Za T;have sn:w1.heap.size+1<=wn.heap.size:=by have:=f.size;omega
 have q0:=Zc f hq.out.1;have q1:=Zc f hq.out.2.1;have q2:=Zc f hq.out.2.2.1;have q3:=Zc f hq.out.2.2.2;clear f c0 c1 c3 a1 a2 aX aY bF bG I y C o b4 hq;have d3:=Za q3.two;obtain⟨d5,d7,d4,d8⟩:=d3.out;have d0:w.heap.size≠w1.heap.size:=Gk;have b3:w.heap.size+1≠w1.heap.size:=Gk;have b0:w.heap.size+1+1≠w1.heap.size:=Gk;obtain⟨V,hV,c9,a0,kV,-,sV⟩:=Za0 n2 A2 k2 c2 b1 Gk q3;replace q0:Blk V w.heap.size 39 #[.bool na,.slice A n c]:=by rw[<- hV];exact(q0.far d0 _).far d0 _
 replace q1:Blk V (w.heap.size+1) 39 #[.bool true,.slice B m d]:=by rw[<- hV];exact(q1.far b3 _).far b3 _
 replace q2:Blk V (w.heap.size+1+1) 41 #[.bool false,.slice none 0 0,.bool false,.slice none 0 0]:=by rw[<- hV];exact(q2.far b0 _).far b0 _
 have y:=Za (kV _ _ _ _ _ HAn.out);have C:=Za (kV _ _ _ _ _ HBn.out);have o:=Za (kV _ _ _ _ _ T.out);clear kV HAn HBn T b1;have c0:=Za q0.two;have c1:=Za q1.two;have c3:=Za a0.two;rw[<- hV]at c0 c1 c3;obtain⟨a1,a2,-,-⟩:=c0.out;obtain⟨aX,aY,-,-⟩:=c1.out;obtain⟨bF,bG,-,-⟩:=c3.out;have hq:=Za (Qm q0 (Qm q1 (Qm q2 a0)));clear q0 q1 q2 q3 a0 d3;replace hV:=Za hV;go_wp2_with fail;rw[hV.out];have s3:w1.heap.size+1<=V.heap.size:=Gk;refine(Zgy na n2 A A2 n c k2 c2 za (-(G:Int)) _ y.out o.out U.out).mono ?_;rintro e w4 ⟨h,nx,Ax,kx,cx,nr,Ar,kr,cr,rfl,a4,-⟩;rw[hx.out]at a4;have b5:Below w.heap.size w w4:=c9.trans (h.mono Gk);have c6:=Za (C.out.below h);have b7:=Za (o.out.below h);have s5:w1.heap.size+1<=w4.heap.size:=by have:=h.size;omega
 have q1:=Zc h hq.out.2.1;have q2:=Zc h hq.out.2.2.1;have q3:=Zc h hq.out.2.2.2;clear h c0 c1 c3 a1 a2 aX aY bF bG d5 d7 d4 d8 hV y C o c9 hq;obtain⟨W5,a5,b9,q5,kW,kB,s6⟩:=Zn 39 #[.bool nx,.slice Ax kx cx] b5 Gk;replace q1:=kB _ _ _ q1;replace q2:=kB _ _ _ q2;replace q3:=kB _ _ _ q3;have c7:=Za (kW _ _ _ _ _ c6.out);have a7:=Za (kW _ _ _ _ _ b7.out);have b6:=Za (kW _ _ _ _ _ a4);clear kW kB c6 b7 a4 b5;obtain⟨W6,aM,aP,-,kW,kB,s7⟩:=Zn 39 #[.bool nr,.slice Ar kr cr] b9 Gk;replace q1:=kB _ _ _ q1;replace q2:=kB _ _ _ q2;replace q3:=kB _ _ _ q3;replace q5:=kB _ _ _ q5;have cY:=Za (kW _ _ _ _ _ c7.out);have cZ:=Za (kW _ _ _ _ _ a7.out);have cw:=Za (kW _ _ _ _ _ b6.out);clear kW kB c7 a7 b6 b9;have c1:=Za q1.two;have c3:=Za q3.two;rw[<- aM,<- a5]at c1 c3;obtain⟨aX,aY,-,-⟩:=c1.out;obtain⟨bF,bG,-,-⟩:=c3.out;have hq:=Za (Qm q2 q5);clear q1 q2 q3 q5;rw[<- a5]at aM;replace aM:=Za aM;clear a5;go_wp2_with fail;rw[aM.out];refine(Zgy true n2 B A2 m d k2 c2 zb (-(G:Int)) _ cY.out cZ.out U.out).mono ?_;exact Er
theorem Zrn(na nb:Bool)(A B:Option Addr)(n c m d:Nat)(za zb:Int)(w:World)(ha:Wd w na A n c za)(hb:Wd w nb B m d zb)(h0:zb≠0) :
    Calls Tryz.prog 33 #[.agg #[.bool na,.slice A n c],.agg #[.bool nb,.slice B m d]] w (Zdl w (Qu za zb)):=by
 have hn:=hb.1;by_cases hz:zb<0
 ·rw[Gv hz]at hn
  subst hn;exact Zrb na A B n c m d za zb w ha hb hz
 rw[Gu hz]at hn;subst hn;exact Ze3 na A B n c m d za zb w ha hb Gk
theorem Zj7(na nb nc nd:Bool)(A B C D:Option Addr)(n c m d n' c' m' d':Nat)(x y u v:Int)(w:World)(ha:Wd w na A n c x)(hb:Wd w nb B m d y)(hc:Wd w nc C n' c' u)(hd:Wd w nd D m' d' v)
    (hs:(x*y).natAbs<pw 4096) (ht:(u*v).natAbs<pw 4096) (h0:u*v≠0) :
    Calls Tryz.prog 101 #[.agg #[.bool na,.slice A n c],.agg #[.bool nb,.slice B m d],.agg #[.bool nc,.slice C n' c'],.agg #[.bool nd,.slice D m' d']] w (Zet w (Qu (x*y) (u*v))):=by
 obtain⟨W0,a3,h,⟨q0,q1,q2,q3,q4⟩,s0⟩:=alloc5 w 39 #[.bool na,.slice A n c] 39 #[.bool nb,.slice B m d] 39 #[.bool nc,.slice C n' c'] 39 #[.bool nd,.slice D m' d'] 41 #[.bool false,.slice none 0 0,.bool false,.slice none 0 0];have hA:=Za (Qm (ha.below h) (hb.below h));have hC:=Za (Qm (hc.below h) (hd.below h));replace hs:=Za hs;replace ht:=Za ht;replace h0:=Za h0;clear ha hb hc hd;obtain⟨a0,a1,-⟩:=q0.two;obtain⟨b0,b1,-⟩:=q1.two;have hq:=Za (Qm q2 (Qm q3 q4));clear q0 q1 q2 q3 q4;go_in;go_wp2_with fail;refine(Zfp na nb A B n c m d x y W0 hA.out.1 hA.out.2).mono ?_;rintro e w1 ⟨f,np,P,k,q,code,rfl,hR⟩;have hP:=Za (hR.small hs.out);have o:=hR.code0 hs.out;subst o;have O:Below w.heap.size w w1:=Gs h f;have s1:W0.heap.size<=w1.heap.size:=f.size;replace hC:=Za (Qm (hC.out.1.below f) (hC.out.2.below f));obtain⟨q2,q3,q4⟩:=hq.out;replace q2:=Zc f q2;replace q3:=Zc f q3;replace q4:=Zc f q4;clear a3 f a0 a1 b0 b1 hq hR hs h hA;obtain⟨W2,a2,V,q5,kW,kB,s2⟩:=Zn 39 #[.bool np,.slice P k q] O O.size;replace hC:=Za (Qm (kW _ _ _ _ _ hC.out.1) (kW _ _ _ _ _ hC.out.2));replace hP:=Za (kW _ _ _ _ _ hP.out);replace q2:=kB _ _ _ q2;replace q3:=kB _ _ _ q3;replace q4:=kB _ _ _ q4;clear kW kB O;obtain⟨a0,a1,-⟩:=q2.two;obtain⟨b0,b1,-⟩:=q3.two;have hq:=Za (Qm q4 q5);clear q2 q3 q4 q5;go_wp2_with fail
 refine(Zfp nc nd C D n' c' m' d' u v W2 hC.out.1 hC.out.2).mono ?_;rintro e w3 ⟨I,nr,R,k2,r,code,rfl,hR⟩;have hQ:=Za (hR.small ht.out);have o:=hR.code0 ht.out;subst o;have T:Below w.heap.size w w3:=Gs V I;have s3:W2.heap.size<=w3.heap.size:=I.size;obtain⟨q4,q5⟩:=hq.out;replace q4:=Zc I q4;replace q5:=Zc I q5;replace hP:=Za (hP.out.below I);clear a2 I a0 a1 b0 b1 hq hR ht V hC;obtain⟨W4,a5,U,q6,kW,kB,s4⟩:=Zn 39 #[.bool nr,.slice R k2 r] T T.size;replace hQ:=Za (kW _ _ _ _ _ hQ.out);replace hP:=Za (kW _ _ _ _ _ hP.out);replace q4:=kB _ _ _ q4;replace q5:=kB _ _ _ q5;clear kW kB T;obtain⟨a0,a1,-⟩:=q5.two;obtain⟨b0,b1,-⟩:=q6.two;have hq:=Za q4;clear q4 q5 q6;go_wp2_with fail;refine(Zrn np nr P R k q k2 r _ _ W4 hP.out hQ.out h0.out).mono ?_;rintro e w5 ⟨J,nx,Ax,kx,cx,ny,Ay,ky,cy,rfl,hF⟩;have a4:Below w.heap.size w w5:=Gs U J;have s5:W4.heap.size<=w5.heap.size:=J.size;replace hq:=Gm J hq;replace hF:=Za hF;clear a0 a1 b0 b1 a5 J U hP hQ;obtain⟨b3,b6,b2,b5,b4,a7,a8,a9⟩:=hq.out.four;go_wp2_with fail;obtain⟨W6,Y,a6,q2,kW,-,s6⟩:=Z7 nx Ax kx cx ny Ay ky cy a4 Gk hq.out;rw[Y];obtain⟨r0,r1,r2,r3,-⟩:=q2.four;refine bodyPost_ret (v:=.tuple #[.agg #[.bool nx,.slice Ax kx cx,.bool ny,.slice Ay ky cy],.int .i64 0]) (by simp[results,Tryz.results101,go_sem,r0,r1,r2,r3]) rfl ?_;exact⟨a6,_,_,_,_,_,_,_,_,rfl,kW _ _ _ _ _ hF.out.1,kW _ _ _ _ _ hF.out.2⟩
theorem Zh3(a b:Rat)(h:b≠0):Qu (a.num*b.den) ((a.den:Int)*b.num)=a/b:=by
 rw[QG,Qr,Qr,Qo,Qo]
 have e0:∀ x:Rat,((x.num:Int):Rat)=x*((x.den:Nat):Rat):=λx=>by
  have h1:((x.num:Int):Rat)/((x.den:Nat):Rat)=x:=by have:=Ya x;rw[QG,Qo]at this;exact this
  have h2:((x.den:Nat):Rat)≠0:=by intro h;have:x.den=0:=by exact_mod_cast h
                                  have:=x.den_pos;omega
  rw[<- h1];grind
 have d:∀ x:Rat,((x.den:Nat):Rat)≠0:=λx h=>by
  have:x.den=0:=by exact_mod_cast h
  have:=x.den_pos;omega
 rw[e0 a,e0 b];have da:=d a;have db:=d b
 grind
theorem Zjk(a b:Rat)(h:b≠0):((a.den:Int)*b.num)≠0:=by
 have h1:=a.den_pos;have h2:b.num≠0:=λe=>h (Rat.num_eq_zero.1 e);exact Int.mul_ne_zero Gk h2
theorem Z2i(na nb na' nb':Bool)(A B A' B':Option Addr)(n c m d n' c' m' d':Nat)(a b:Rat)(w:World)(ha:Fr w na A n c nb B m d a)(hb:Fr w na' A' n' c' nb' B' m' d' b)(sa:Sm a)(sb:Sm b)(h0:b≠0) :
    Calls Tryz.prog 137 #[.agg #[.bool na,.slice A n c,.bool nb,.slice B m d],.agg #[.bool na',.slice A' n' c',.bool nb',.slice B' m' d']] w (Zet w (a/b)):=by
 obtain⟨W0,J,f,⟨q0,q1,q2⟩,s0⟩:=Zb0 w 41 #[.bool na,.slice A n c,.bool nb,.slice B m d] 41 #[.bool na',.slice A' n' c',.bool nb',.slice B' m' d'] 41 #[.bool false,.slice none 0 0,.bool false,.slice none 0 0];have hA:=ha.below f;have hD:=hb.below f;clear ha hb;have hG:=Zj7 na nb' nb na' A B' B A' n c m' d' m d n' c' a.num b.den a.den b.num W0 hA.1 hD.2 hA.2 hD.1 (Zbs sa.1 sb.dn) (Zbs sa.dn sb.1) (Zjk a b h0);rw[Zh3 a b h0]at hG;replace hG:=Za hG;clear sa sb hA hD;obtain⟨a0,a1,a2,a3,-⟩:=q0.four;obtain⟨b0,b1,b2,b3,-⟩:=q1.four;replace q2:=Za q2;clear q0 q1;go_in;go_wp2_with fail;refine hG.out.mono ?_;clear hG;rintro e w2 ⟨h,nx,Ax,kx,cx,ny,Ay,ky,cy,rfl,hF⟩;have o:Below w.heap.size w w2:=Gs f h;have s2:W0.heap.size<=w2.heap.size:=h.size;replace q2:=Gm h q2;replace hF:=Za hF;clear a0 a1 a2 a3 b0 b1 b2 b3 h;obtain⟨Y,U,V,T,O,y,I,C⟩:=q2.out.four;go_wp2_with fail;obtain⟨W7,u,bu,q3,kW,-,s7⟩:=Z7 nx Ax kx cx ny Ay ky cy o Gk q2.out;rw[u];obtain⟨r0,r1,r2,r3,-⟩:=q3.four;refine bodyPost_ret (v:=.tuple #[.agg #[.bool nx,.slice Ax kx cx,.bool ny,.slice Ay ky cy],.int .i64 0]) (by simp[results,Tryz.results137,go_sem,r0,r1,r2,r3]) rfl ?_;exact Cd
theorem Zo8(na nb na' nb':Bool)(A B A' B':Option Addr)(n c m d n' c' m' d':Nat)(a b:Rat)(w:World)(ha:Fr w na A n c nb B m d a)(hb:Fr w na' A' n' c' nb' B' m' d' b)(sa:Sm a)(sb:Sm b) :
    Calls Tryz.prog 62 #[.agg #[.bool na,.slice A n c,.bool nb,.slice B m d],.agg #[.bool na',.slice A' n' c',.bool nb',.slice B' m' d']] w (Zet w (a*b)):=by
 obtain⟨W0,J,f,⟨q0,q1,q2⟩,s0⟩:=Zb0 w 41 #[.bool na,.slice A n c,.bool nb,.slice B m d] 41 #[.bool na',.slice A' n' c',.bool nb',.slice B' m' d'] 41 #[.bool false,.slice none 0 0,.bool false,.slice none 0 0];have hA:=ha.below f;have hD:=hb.below f;clear ha hb;have hG:=Zj7 na na' nb nb' A A' B B' n c n' c' m d m' d' a.num b.num a.den b.den W0 hA.1 hD.1 hA.2 hD.2 (Zbs sa.1 sb.1) (Zbs sa.dn sb.dn) (Int.ne_of_gt (Zck a b));rw[Zq5]at hG;replace hG:=Za hG;clear sa sb hA hD;obtain⟨a0,a1,a2,a3,-⟩:=q0.four;obtain⟨b0,b1,b2,b3,-⟩:=q1.four;replace q2:=Za q2;clear q0 q1;go_in;go_wp2_with fail;refine hG.out.mono ?_;clear hG;rintro e w2 ⟨h,nx,Ax,kx,cx,ny,Ay,ky,cy,rfl,hF⟩;have o:Below w.heap.size w w2:=Gs f h;have s2:W0.heap.size<=w2.heap.size:=h.size;replace q2:=Gm h q2;replace hF:=Za hF;clear a0 a1 a2 a3 b0 b1 b2 b3 h;obtain⟨Y,U,V,T,O,y,I,C⟩:=q2.out.four;go_wp2_with fail;obtain⟨W7,u,bu,q3,kW,-,s7⟩:=Z7 nx Ax kx cx ny Ay ky cy o Gk q2.out;rw[u];obtain⟨r0,r1,r2,r3,-⟩:=q3.four;refine bodyPost_ret (v:=.tuple #[.agg #[.bool nx,.slice Ax kx cx,.bool ny,.slice Ay ky cy],.int .i64 0]) (by simp[results,Tryz.results62,go_sem,r0,r1,r2,r3]) rfl ?_;exact Cd
theorem Zzi(na nb na' nb':Bool)(A B A' B':Option Addr)(n c m d n' c' m' d':Nat)(a b:Rat)(w:World)(ha:Fr w na A n c nb B m d a)(hb:Fr w na' A' n' c' nb' B' m' d' b)(sa:Sm a)(sb:Sm b) :
    Calls Tryz.prog 136 #[.agg #[.bool na,.slice A n c,.bool nb,.slice B m d],.agg #[.bool na',.slice A' n' c',.bool nb',.slice B' m' d']] w (Zet w (a-b)):=by
 obtain⟨W0,J,f,⟨q0,q1,q2⟩,s0⟩:=Zb0 w 41 #[.bool na,.slice A n c,.bool nb,.slice B m d] 41 #[.bool na',.slice A' n' c',.bool nb',.slice B' m' d'] 41 #[.bool false,.slice none 0 0,.bool false,.slice none 0 0];have hA:=ha.below f;have hD:=hb.below f;clear ha hb;have hG:=Zwy na nb na' nb' A B A' B' n c m d n' c' m' d' a b W0 hA hD sa sb;replace hG:=Za hG;clear sa sb hA hD;obtain⟨a0,a1,a2,a3,-⟩:=q0.four;obtain⟨b0,b1,b2,b3,-⟩:=q1.four;replace q2:=Za q2;clear q0 q1;go_in;go_wp2_with fail;refine hG.out.mono ?_;clear hG;rintro e w2 ⟨h,nx,Ax,kx,cx,ny,Ay,ky,cy,rfl,hF⟩;have o:Below w.heap.size w w2:=Gs f h;have s2:W0.heap.size<=w2.heap.size:=h.size;replace q2:=Gm h q2;replace hF:=Za hF;clear a0 a1 a2 a3 b0 b1 b2 b3 h;obtain⟨Y,U,V,T,O,y,I,C⟩:=q2.out.four;go_wp2_with fail;obtain⟨W7,u,bu,q3,kW,-,s7⟩:=Z7 nx Ax kx cx ny Ay ky cy o Gk q2.out;rw[u];obtain⟨r0,r1,r2,r3,-⟩:=q3.four;refine bodyPost_ret (v:=.tuple #[.agg #[.bool nx,.slice Ax kx cx,.bool ny,.slice Ay ky cy],.int .i64 0]) (by simp[results,Tryz.results136,go_sem,r0,r1,r2,r3]) rfl ?_;exact Cd
theorem Z0y(na nb na' nb':Bool)(A B A' B':Option Addr)(n c m d n' c' m' d':Nat)(a b:Rat)(w:World)(ha:Fr w na A n c nb B m d a)(hb:Fr w na' A' n' c' nb' B' m' d' b)(sa:Sm a)(sb:Sm b) :
    Calls Tryz.prog 61 #[.agg #[.bool na,.slice A n c,.bool nb,.slice B m d],.agg #[.bool na',.slice A' n' c',.bool nb',.slice B' m' d']] w (Zet w (a+b)):=by
 obtain⟨W0,J,f,⟨q0,q1,q2⟩,s0⟩:=Zb0 w 41 #[.bool na,.slice A n c,.bool nb,.slice B m d] 41 #[.bool na',.slice A' n' c',.bool nb',.slice B' m' d'] 41 #[.bool false,.slice none 0 0,.bool false,.slice none 0 0];have hA:=ha.below f;have hD:=hb.below f;clear ha hb;have hG:=Zv4 na nb na' nb' A B A' B' n c m d n' c' m' d' a b W0 hA hD sa sb;replace hG:=Za hG;clear sa sb hA hD;obtain⟨a0,a1,a2,a3,-⟩:=q0.four;obtain⟨b0,b1,b2,b3,-⟩:=q1.four;replace q2:=Za q2;clear q0 q1;go_in;go_wp2_with fail;refine hG.out.mono ?_;clear hG;rintro e w2 ⟨h,nx,Ax,kx,cx,ny,Ay,ky,cy,rfl,hF⟩;have o:Below w.heap.size w w2:=Gs f h;have s2:W0.heap.size<=w2.heap.size:=h.size;replace q2:=Gm h q2;replace hF:=Za hF;clear a0 a1 a2 a3 b0 b1 b2 b3 h;obtain⟨Y,U,V,T,O,y,I,C⟩:=q2.out.four;go_wp2_with fail;obtain⟨W7,u,bu,q3,kW,-,s7⟩:=Z7 nx Ax kx cx ny Ay ky cy o Gk q2.out;rw[u];obtain⟨r0,r1,r2,r3,-⟩:=q3.four;refine bodyPost_ret (v:=.tuple #[.agg #[.bool nx,.slice Ax kx cx,.bool ny,.slice Ay ky cy],.int .i64 0]) (by simp[results,Tryz.results61,go_sem,r0,r1,r2,r3]) rfl ?_;exact Cd
structure RF where
 g:Nat
 c:Nat
 q:List Rat
def RF.rs(r:RF):RS:=⟨some ⟨r.g,0,none⟩,r.q.length,r.c⟩
def MatB(tS tF:TypeId)(w:World)(go:Nat)(L:List RF):Prop:=
 (∃ zs,Blk w go tS (Z5 (L.map RF.rs++zs)))/\(∀ r ∈ L,FOwn tF w r.g r.q/\r.q.length<=r.c/\r.c<=maxLen)/\(go::L.map RF.g).Nodup
section
variable{tS tF:TypeId}{w w':World}{go:Nat}{L:List RF}
theorem IU{G:Prop}(h:G:=by
 obtain⟨⟨zs,h1⟩,h2,h3⟩:=h;exact⟨⟨zs,Zc hb h1⟩,λr hr=>⟨(h2 r hr).1.below hb,(h2 r hr).2⟩,h3⟩):G:=h
theorem MatB.below(h:MatB tS tF w go L)(hb:Below w.heap.size w w'):MatB tS tF w' go L:=by
 exact IU
theorem FW{G:Prop}(h:G:=by
 obtain⟨⟨zs,h1⟩,-,-⟩:=h;refine⟨?_,h1.frozen i⟩;rw[h1.cell];refine Zb6 (e:=r.rs) ?_;have hi:=(List.getElem?_eq_some_iff.1 hr).1;rw[List.getElem?_append_left (by simpa using hi),List.getElem?_map,hr];rfl):G:=h
theorem MatB.cell(h:MatB tS tF w go L){i:Nat}{r:RF}(hr:L[i]?=some r):w.cell? ⟨go,i,none⟩=some (.slice (some ⟨r.g,0,none⟩) r.q.length r.c)/\w.frozen? ⟨go,i,none⟩=false:=by
 exact FW
theorem MatB.row(h:MatB tS tF w go L){i:Nat}{r:RF}(hr:L[i]?=some r):FOwn tF w r.g r.q/\r.q.length<=r.c/\r.c<=maxLen:=h.2.1 r (Qn hr)
theorem IK{G:Prop}(h:G:=by
 have:=(List.nodup_cons.1 h.2.2).1;exact this (List.mem_map.2 ⟨r,List.mem_of_getElem? hr,e.symm⟩)):G:=h
theorem MatB.ne(h:MatB tS tF w go L){i:Nat}{r:RF}(hr:L[i]?=some r):go≠r.g:=λe=>by
 exact IK
theorem IZ{G:Prop}(h:G:=by
 exact aU ((List.getElem?_inj (by have:=(List.getElem?_eq_some_iff.1 h1).1;exact this) hn).1 (h1.trans h2.symm))):G:=h
theorem MatB.ne2(h:MatB tS tF w go L){i j:Nat}{r s:RF}(hr:L[i]?=some r)(hs:L[j]?=some s)(aU:i≠j):r.g≠s.g:=λe=>by
 have hn:=(List.nodup_cons.1 h.2.2).2;have h1:(L.map RF.g)[i]?=some r.g:=by rw[Qd,hr];rfl
 have h2:(L.map RF.g)[j]?=some r.g:=by rw[Qd,hs,e];rfl
 exact IZ
theorem FA{G:Prop}(h:G:=by
 intro k hk;obtain⟨⟨zs,h1⟩,h2,-⟩:=h;rcases hk with rfl|hk;exact⟨tS,_,h1,Zba _⟩;obtain⟨r,hr,rfl⟩:=List.mem_map.1 hk;exact(h2 r hr).1.box):G:=h
theorem MatB.boxes(h:MatB tS tF w go L):∀ k,(k=go \/ k ∈ L.map RF.g)->∃ t cs,Blk w k t cs/\NoLimb cs:=by
 exact FA
theorem FM{G:Prop}(h:G:=by
 rw[List.map_set];apply List.ext_getElem?;intro j;rw[List.getElem?_set];by_cases aU:i=j
 ·subst aU
  rw[Gx rfl,Gx (by simpa using hi),List.getElem?_map,hr];rfl
 rw[Gw aU]):G:=h
theorem MatB.set_(h:MatB tS tF w go L){i:Nat}{r:RF}(hr:L[i]?=some r){k:Nat}(hk:k<r.q.length){na:Bool}{A:Option Addr}{n c:Nat}{nb:Bool}{B:Option Addr}{m d:Nat}{x:Rat}(hf:Fr w na A n c nb B m d x) :
    MatB tS tF (Zgh w r.g k na A n c nb B m d) go (L.set i ⟨r.g,r.c,r.q.set k x⟩):=by
 have y:=h.ne hr;have u:=λ{j:Nat} {s:RF} (hs:L[j]?=some s) (aU:j≠i)=>h.ne2 hs hr aU;have f:=h.row hr;have hi:=(List.getElem?_eq_some_iff.1 hr).1;obtain⟨⟨zs,h1⟩,h2,h3⟩:=h;refine⟨⟨zs,?_⟩,λs hs=>?_,?_⟩
 ·have e:(L.set i ⟨r.g,r.c,r.q.set k x⟩).map RF.rs=L.map RF.rs:=by
    rw[QH];apply Qs;intro j;rw[QA];by_cases aU:i=j
    ·subst aU
     rw[Gx rfl,Gx (by simpa using hi),Qd,hr];simp[RF.rs]
    rw[Gw aU]
  rw[e];exact Zkc h1 y
 ·obtain⟨j,hj,C⟩:=QY hs
  have o:(L.set i ⟨r.g,r.c,r.q.set k x⟩)[j]?=some s:=by rw[Qb hj,C]
  rw[QA]at o;by_cases aU:i=j
  ·subst aU
   rw[Gx rfl,Gx hi]at o;cases o;exact⟨f.1.set_ hk hf,by simpa using f.2.1,f.2.2⟩
  rw[Gw aU]at o;have:=h2 s (Qn o);exact⟨this.1.other (u o (QD aU)) f.1.box,this.2⟩
 have e:(L.set i ⟨r.g,r.c,r.q.set k x⟩).map RF.g=L.map RF.g:=by
   exact FM
 rw[e];exact h3
theorem Z1t{α:Type}{l:List α}{i j:Nat}{x y:α}(hx:l[i]?=some x)(hy:l[j]?=some y):Zaj l i j=(l.set i y).set j x:=by unfold Zaj;rw[hx,hy]
theorem Zlj{α β:Type}(f:α->β)(l:List α)(i j:Nat):(Zaj l i j).map f=Zaj (l.map f) i j:=by
 unfold Zaj;rw[Qd,Qd];cases l[i]? with
 | none=>rfl
 | some x=>cases l[j]? with
  | none=>rfl
  | some y=>simp[QH]
theorem Zjc{α:Type}(l:List α)(i j:Nat):∀ x,x ∈ Zaj l i j->x ∈ l:=by
 intro x hx;unfold Zaj at hx
 split at hx
 ·rename_i a b ha hb
  rcases Qv hx with hx|rfl
  ·rcases Qv hx with hx|rfl
   exact hx;exact Qn hb
  exact Qn ha
 exact hx
theorem Zup{l:List Nat}(h:l.Nodup){i j:Nat}(hi:i<l.length)(hj:j<l.length):(Zaj l i j).Nodup:=by
 unfold List.Nodup;rw[List.pairwise_iff_getElem];intro a b ha hb o e;rw[Zeg]at ha hb;have h1:(Zaj l i j)[a]?=(Zaj l i j)[b]?:=by rw[Qb (by rw[Zeg];exact ha),Qb (by rw[Zeg];exact hb),e]
 rw[Zdu hi hj,Zdu hi hj]at h1;have f:swI i j a<l.length:=Zh5 hi hj ha;have:=(List.getElem?_inj f h).1 h1;have h2:swI i j (swI i j a)=swI i j (swI i j b):=by rw[this]
 rw[Zrf,Zrf]at h2;omega
theorem MatB.keptG{G:Nat->Prop}(h:MatB tS tF w go L)(hk:Kept G w w')(hg:¬ G go)(hgs:∀ r ∈ L,¬ G r.g)(hG:∀ k,G k->∃ t cs,Blk w k t cs/\NoLimb cs):MatB tS tF w' go L:=by
 obtain⟨⟨zs,h1⟩,h2,h3⟩:=h;refine⟨⟨zs,hk.blk h1 hg⟩,λr hr=>⟨?_,(h2 r hr).2⟩,h3⟩;obtain⟨es,fs,q1,q2,q3⟩:=(h2 r hr).1;exact⟨es,fs,hk.blk q1 (hgs r hr),λe he=>⟨hk.wd (q2 e he).1 hG,hk.wd (q2 e he).2 hG⟩,q3⟩
end
def Zde(L:List RF)(i:Nat):List Rat:=(L[i]?.map RF.q).getD []
theorem Zgp{L:List RF}{i:Nat}{r:RF}(h:L[i]?=some r):Zde L i=r.q:=by unfold Zde;rw[h];rfl
theorem FC{G:Prop}(h:G:=by
 rw[List.getElem?_eq_getElem (show i<L.length by omega),List.getElem?_eq_getElem hi]at this ⊢;simp only[Option.map_some,Option.getD_some]at this ⊢;rw[this]):G:=h
theorem Z2u{L:List RF}{R:List (List Rat)}(hl:L.length=R.length)(h:∀ i,i<R.length->Zde L i=R[i]?.getD []):L.map RF.q=R:=by
 apply Qs;intro i;rw[Qd];by_cases hi:i<R.length
 ·have:=h i hi
  unfold Zde at this;exact FC
 rw[Qe Gk,Qe Gk];rfl
theorem Zn7(L:List RF)(i:Nat):Zde L i=(L.map RF.q)[i]?.getD []:=by unfold Zde;rw[Qd]
theorem Zjm{R:List (List Rat)}{r col i:Nat}(hi:i<R.length):(Zbr R r col)[i]?.getD []=if i<=r then R[i]?.getD []else Zot (R[r]?.getD []) (R[i]?.getD []) col:=by
 unfold Zbr;rw[Qd,Qi hi];rfl
theorem II{G:Prop}(h:G:=by
 rw[List.getElem?_eq_none Gk,List.getElem?_eq_none (l:=List.range _) (by simpa using ht)];rfl):G:=h
theorem rowR_eq{p row q:List Rat}{col:Nat}(hl:q.length=row.length)(h:∀ t,q[t]?.getD 0=if col<=t/\t<row.length then row[t]?.getD 0-row[col]?.getD 0/p[col]?.getD 0*p[t]?.getD 0 else row[t]?.getD 0):q=Zot p row col:=by
 apply Qs;intro t;unfold Zot;rw[Qd];have:=h t;by_cases ht:t<row.length
 ·rw[Qi ht]
  rw[Qb (show t<q.length by omega)]at this ⊢;simp only[Qk,Qg]at this ⊢;rw[this];by_cases hc:t<col;rw[Gx hc,Gw Gk];rw[Gw hc,Gx Gk]
 exact II
theorem Z1k{row q:List Rat}{col k:Nat}{x:Rat}{f:Nat->Rat}(hl:q.length=row.length)(hk:col<=k)(hkl:k<row.length)(hx:x=f k)(h:∀ t,q[t]?.getD 0=if col<=t/\t<k then f t else row[t]?.getD 0) :
    ∀ t,(q.set k x)[t]?.getD 0=if col<=t/\t<k+1 then f t else row[t]?.getD 0:=by
 intro t;rw[QA];by_cases ht:k=t
 ·subst ht
  rw[Gx rfl,Gx Gk,Gx Gk,hx];rfl
 rw[Gw ht,h t];by_cases h1:col<=t/\t<k;rw[Gx h1,Gx Gk];rw[Gw h1,Gw Gk]
section
variable{a b:Rat}{i j k l:Nat}
theorem SmN.mulN(h:SmN i j a)(g:SmN k l b):SmN (i+k) (j+l) (a*b):=by
 rw[<- Zq5 a b];have hd:((a.den:Int)*(b.den:Nat))≠0:=Int.ne_of_gt (Zck a b);refine⟨Qc (Zwk _ _ hd) ?_,Qc (Zus _ _ hd) ?_⟩;rw[Qx];exact Zc1 h.1 g.1;rw[Qx,Qz,Qz];exact Zc1 h.2 g.2
theorem SmN.divN(h:SmN i j a)(g:SmN k l b)(h0:b≠0):SmN (i+l) (j+k) (a/b):=by
 rw[<- Zh3 a b h0];have hd:=Zjk a b h0;refine⟨Qc (Zwk _ _ hd) ?_,Qc (Zus _ _ hd) ?_⟩;rw[Qx,Qz];exact Zc1 h.1 g.2;rw[Qx,Qz];exact Zc1 h.2 g.1
end
