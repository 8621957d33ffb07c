/- The reference of layer 1: times, minus over limbs. The -/
import Derived.BigQuiet
import Derived.Deep.QuietTactic
import Derived.Deep.CutBlock
import Derived.Deep.DeepCutAuto
import Derived.Test.YthappeninglakaaGreatZa04
set_option maxRecDepth 100000
set_option maxHeartbeats 4000000
set_option linter.unusedSimpArgs false
set_option linter.unusedVariables false
namespace Go.Proofs.YthappeninglakaaGreat
open Go.RowKit
open Nat renaming le_refl→Qa,eq_zero_or_pos→Qc,div_lt_iff_lt_mul→Qd,le_trans→Qe,gcd→Qh,mul_assoc→Qj,mul_le_mul_left→Qk,lt_of_le_of_lt→Ql,zero_add→Qm,mul_zero→Qn,zero_le→Qo,mod_lt→Qr,mul_comm→Qs,and_two_pow_sub_one_eq_mod→Qt,pow_pos→Qu,mul_add→Qv,mul_lt_mul_of_pos_left→Qw,gcd_pos_of_pos_right→Qx,mul_one→Qz,mul_le_mul→QA,pow_le_pow_right→QC,lt_of_lt_of_le→QG,add_zero→QH,lt_or_ge→QI,lt_trichotomy→QJ,gcd_dvd_left→QK,mod_eq_of_lt→QM,div_add_mod→QO
open Below renaming refl→Qb
open List renaming length_set→Qf,drop_of_length_le→Qp,length_take→QN,replicate→QP,drop_zero→QQ
open IntKind renaming wrap_u64→Qg
open Int renaming eq_ofNat_of_zero_le→Qi,fdiv_eq_ediv_of_dvd→Qy,neg_ediv_of_dvd→QE,natCast_ediv→QL
open Blk renaming new→Qq
open Rat renaming divInt→QB
open World renaming cell?_of_block→QD
open And renaming intro→QF
attribute [local go_sem] Zi
theorem Zv3(A B:Option Addr)(n c m d:Nat)(a b:List Nat)(w:World)(ha:Lim w A n c a)(hb:Lim w B m d b)(hn:n<=1000000000)(hm:m<=1000000000) :
    Calls Tryz.prog 145 #[.slice A n c,.slice B m d] w (OutL w λl=>l.length=n+m/\val l=val a*val b):=by
 obtain⟨i0,hi,f,o,u⟩:=info_parts Zdn;have a0:=Zgs (P:=Tryz.prog) 37 106 Tryz.underlying37 hi f o u ((n:Int)+m) (n+m) Gk Gk;have Y:=ha.2.1;have a1:=hb.2.1;have e:=ha.2.2.1;have h:=hb.2.2.1;unfold maxLen at e h;have bU:=Zd ha.len;have cY:=Zd hb.len;go_in
 go_wp2
 go_loopw [6] (λiv wr=>∃ i:Nat,i<=n/\iv=.int .i64 i/\Times1 w a b w.heap.size i 0 0 wr) (λiv _=>n-(intOf iv).toNat)
 case atStart=>exact⟨0,Qo _,rfl,by have:=Times1.start w a b;rw[ha.len,hb.len]at this;exact this⟩
 case round =>
  obtain⟨i,T,rfl,hP⟩:=hrel;by_cases hlt1:i<n
  ·have C:Below w.heap.size w wr:=by obtain⟨out,h1,h2,h3,h4,h5,h6,h7⟩:=hP;exact h7
   obtain⟨ba,oa,rfl,V⟩:=(ha.below C).at_ hlt1;have I:=ha.lt.get i;obtain⟨wo,rfl⟩:=Gy wr
   go_wp2
   go_loopw [7,8] (λcv kv wr=>∃ k carry:Nat,k<=m/\cv=.int .u64 carry/\kv=.int .i64 k/\Times1 w a b w.heap.size i k carry wr) (λ_ kv _=>m-(intOf kv).toNat)
   case atStart=>exact⟨0,0,Qo _,rfl,rfl,hP⟩
   case round =>
    obtain⟨k,carry,hk,rfl,rfl,hP⟩:=hrel;by_cases hlt2:k<m
    ·obtain⟨out,ap,au,bF,hz,hI,cM,hB⟩:=hP
     have hz:=Zd hz;have hI:=Zd hI;have au:=Zd au;have fv:=ap.lt;obtain⟨bb,ob,rfl,U⟩:=(hb.below hB).at_ hlt2;have y:=hb.lt.get k;have cZ:=ap.cell (i+k);rw[Zaw out (i+k) (by rw[au.out,bU.out,cY.out];omega)]at cZ;have J:=bF.get (i+k);have fe:=ap.frozen (i+k);have O:=(ha.below hB).cell hlt1;have s1:IntKind.i64.wrap ((i:Int)+(k:Int))=(i:Int)+(k:Int):=IntWalk.i64_in _ Gk;have s2:0<=(i:Int)+(k:Int):=Gk;have s3:((i:Int)+(k:Int)).toNat=i+k:=Gk
     go_wp2
     go_quiet (fail)
     clear s1 s2 s3
     go_wp2
     go_roundw
     case rel =>
      rw[Zwx cM I y J,Zn3,Zmx];exact⟨k+1,_,by omega,rfl,by go_num,Times1.step (wr:=wr.drewN nq) ap au.out bF hz.out hI.out cM (Zh hB _) (by rw[bU.out];exact hlt1) (by rw[cY.out];exact hlt2) ha.lt hb.lt (Qr _ Gj) Gk⟩
     case measure=>simp[intOf];omega
    exact EP
  exact Fq
def RMinus(w:World)(a b:List Nat)(k borrow:Nat)(v:Value)(wr:World):Prop:=
 ∃ l,OwnL 106 wr w.heap.size v l/\l.length=k/\borrow<=1/\val l+val (b.take k)=val (a.take k)+pw k*borrow/\Below w.heap.size w wr
theorem RMinus.step{w w1 wb:World}{a b l:List Nat}{k borrow q s:Nat}{v':Value}{X:Int}{row:Option Nat}(hlen:l.length=k)(hlt:Lt32 l)(hq:q<=1)
    (hI:val l+val (b.take k)=val (a.take k)+pw k*borrow) (hB:Below w.heap.size w wb) (hown:w1.ownsRow w.heap.size 106 1 v' (k+1) (l.map limb ++ [.int .u32 X]))
    (hg:wb.grownBy w1 row) (hr:∀ j,row=some j->w.heap.size<=j) (hs:s<4294967296) (hX:X=s) (he:s+b[k]?.getD 0+borrow=a[k]?.getD 0+4294967296*q):RMinus w a b (k+1) q v' w1:=by
 refine⟨l ++ [s],OwnL.snoc hlen.symm hown hlt hX hs,by simp[hlen],hq,?_,hB.grown hg hB.size hr⟩;rw[Zeq,hlen,Zac,Zac,Za6];have:pw k*(s+b[k]?.getD 0+borrow)=pw k*(a[k]?.getD 0+4294967296*q):=by rw[he]
 grind
theorem RMinus.stop{w wr:World}{a b:List Nat}{n borrow:Nat}{v:Value}(h:RMinus w a b n borrow v wr)(ha:a.length<=n)(hb:b.length<=n)(hab:val b<=val a) :
    ∃ A c l,v=.slice A n c/\Lim wr A n c l/\val l=val a-val b/\Below w.heap.size w wr:=by
 obtain⟨l,e,f,hq,hI,hB⟩:=h;obtain⟨A,c,hv,hL⟩:=e.lim;rw[f]at hv hL;refine⟨A,c,l,hv,hL,?_,hB⟩;rw[Zad ha,Zad hb]at hI;have:=hL.lt_pw;exact IL
theorem Zob(A B:Option Addr)(n c m d:Nat)(a b:List Nat)(w:World)(ha:Lim w A n c a)(hb:Lim w B m d b)(hmn:m<=n)(O:val b<=val a)(hn9:n<=1000000000) :
    Calls Tryz.prog 170 #[.slice A n c,.slice B m d] w (OutL w λl=>l=digits (val a-val b)):=by
 obtain⟨i0,hi,y,C,I⟩:=info_parts Zdn;have b0:=ha.2.1;have b2:=hb.2.1;have Y:=ha.2.2.1;have a0:=hb.2.2.1;unfold maxLen at Y a0;have a2:=Zd ha.len;have V:=Zd hb.len;have O:=Zd O;go_in
 go_wp2
 go_loopw [5,6,7] (λov cv iv wr=>∃ k borrow:Nat,k<=n/\cv=.int .i64 borrow/\iv=.int .i64 k/\RMinus w a b k borrow ov wr) (λ_ _ iv _=>n-(intOf iv).toNat)
 case atStart=>exact⟨0,0,Qo _,rfl,rfl,[],OwnL.nil _ _ _,rfl,by omega,by simp[val],Qb _ _⟩
 case round =>
  obtain⟨k,borrow,hk,rfl,rfl,hP⟩:=hrel;by_cases h1:k<n
  ·obtain⟨l,f,J,a8,hI,hB⟩:=hP
   have HLen:=Zd J;have HI:=Zd hI;clear J hI;have b1:=ha.lt.get k;have a9:=hb.lt.get k;obtain⟨ba,oa,rfl,a7⟩:=(ha.below hB).at_ h1;by_cases h2:k<m
   ·obtain⟨bb,ob,rfl,a6⟩:=(hb.below hB).at_ h2
    by_cases h3:a[k]?.getD 0<borrow+b[k]?.getD 0
    ·go_wp2_with (at_builtin;refine Zx _ rfl (.tmp 37) (.tmp 40) 37 rfl w.heap.size 106 i0 _ 1 4 Tryz.underlying37 hi y C I rfl Gk _ k (l.map limb) rfl (by have:=HLen.out;subst this;exact f.1.alloc _) _ _ 1 1 _ rfl (Zb1 _ _ _) (by simp[Value.oneCell']) (by simp only[maxLen];omega) Gk Gb ?_;intro v1 w1 h o u)
     go_roundw
     case rel=>exact⟨k+1,1,by omega,by go_num,by go_num,RMinus.step (s:=a[k]?.getD 0+4294967296-borrow-b[k]?.getD 0) HLen.out f.2 Gk HI.out (hB.alloc hB.size _) h o f.row_ge Gk Gk Gk⟩
     case measure=>simp[intOf];omega
    go_wp2_with (at_builtin;refine Zx _ rfl (.tmp 37) (.tmp 40) 37 rfl w.heap.size 106 i0 _ 1 4 Tryz.underlying37 hi y C I rfl Gk _ k (l.map limb) rfl (by have:=HLen.out;subst this;exact f.1.alloc _) _ _ 1 1 _ rfl (Zb1 _ _ _) (by simp[Value.oneCell']) (by simp only[maxLen];omega) Gk Gb ?_;intro v1 w1 h o u)
    go_roundw
    case rel=>exact⟨k+1,0,by omega,by go_num,by go_num,RMinus.step (s:=a[k]?.getD 0-borrow-b[k]?.getD 0) HLen.out f.2 Gk HI.out (hB.alloc hB.size _) h o f.row_ge Gk Gk Gk⟩
    case measure=>simp[intOf];omega
   have U:=Zd (getD_none (l:=b) (i:=k) (by rw[V.out];omega));by_cases h3:a[k]?.getD 0<borrow
   ·go_wp2_with (at_builtin;refine Zx _ rfl (.tmp 37) (.tmp 40) 37 rfl w.heap.size 106 i0 _ 1 4 Tryz.underlying37 hi y C I rfl Gk _ k (l.map limb) rfl (by have:=HLen.out;subst this;exact f.1.alloc _) _ _ 1 1 _ rfl (Zb1 _ _ _) (by simp[Value.oneCell']) (by simp only[maxLen];omega) Gk Gb ?_;intro v1 w1 h o u)
    go_roundw
    case rel=>exact⟨k+1,1,by omega,by go_num,by go_num,RMinus.step (s:=a[k]?.getD 0+4294967296-borrow) HLen.out f.2 Gk HI.out (hB.alloc hB.size _) h o f.row_ge Gk Gk (by rw[U.out];omega)⟩
    case measure=>simp[intOf];omega
   go_wp2_with (at_builtin;refine Zx _ rfl (.tmp 37) (.tmp 40) 37 rfl w.heap.size 106 i0 _ 1 4 Tryz.underlying37 hi y C I rfl Gk _ k (l.map limb) rfl (by have:=HLen.out;subst this;exact f.1.alloc _) _ _ 1 1 _ rfl (Zb1 _ _ _) (by simp[Value.oneCell']) (by simp only[maxLen];omega) Gk Gb ?_;intro v1 w1 h o u)
   go_roundw
   case rel=>exact⟨k+1,0,by omega,by go_num,by go_num,RMinus.step (s:=a[k]?.getD 0-borrow) HLen.out f.2 Gk HI.out (hB.alloc hB.size _) h o f.row_ge Gk Gk (by rw[U.out];omega)⟩
   case measure=>simp[intOf];omega
  obtain rfl:k=n:=Gk;obtain⟨A2,c2,l2,rfl,a4,T,hB⟩:=hP.stop (by rw[a2.out];omega) (by rw[V.out];omega) O.out;have T:=Zd T;clear hP;go_wp2_with (go_at_call 123;refine(Zec _ _ _ _ _ a4 hn9).mono ?_;rintro e w3 ⟨A3,n3,c3,l3,rfl,a1,a3,a5⟩);go_ret;exact⟨_,_,_,_,rfl,a1,by rw[a3,T.out],Gs hB a5⟩
theorem Zbs{neg:Bool}{A:Option Addr}{n c:Nat}{l:List Nat}{w:World}(h:Lim w A n c l)(hk:okW neg l=true) :
    Calls Tryz.prog 29 #[.agg #[.bool neg,.slice A n c]] w λe w'=>e=.returned (.int .i64 0)/\Below w.heap.size w w':=
 (Zm1 neg A n c l w h).mono λ_ _ ⟨he,hb⟩=>⟨by rw[he,hk];rfl,hb⟩
theorem Zmf{neg:Bool}{A:Option Addr}{n c:Nat}{l:List Nat}{w:World}(h:Lim w A n c l)(hk:okW neg l=false) :
    Calls Tryz.prog 29 #[.agg #[.bool neg,.slice A n c]] w λe w'=>e=.returned (.int .i64 8)/\Below w.heap.size w w':=
 (Zm1 neg A n c l w h).mono λ_ _ ⟨he,hb⟩=>⟨by rw[he,hk];rfl,hb⟩
theorem Ze7{na nb:Bool}{A B:Option Addr}{n c m d:Nat}{la lb:List Nat}{w:World}(hLa:Lim w A n c la)(hLb:Lim w B m d lb)(hk:(okW na la && okW nb lb)=true) :
    Calls Tryz.prog 97 #[.agg #[.bool na,.slice A n c],.agg #[.bool nb,.slice B m d]] w λe w'=>e=.returned (.int .i64 0)/\Below w.heap.size w w':=by
 have u:Below w.heap.size w ((w.alloc (.cells #[.bool na,.slice A n c] 39)).alloc (.cells #[.bool nb,.slice B m d] 39)):=((Qb w.heap.size w).alloc (Qa _) _).alloc Gh _;obtain⟨ka,kb⟩:okW na la=true/\okW nb lb=true:=by simpa using hk
 go_in;go_wp2_with fail;refine(Zbs (hLa.below u) (by first|assumption|simp_all)).mono ?_;rintro e w1 ⟨rfl,o⟩;obtain⟨f,C⟩:=Zc1 o;have I:w.heap.size+1<w1.heap.size:=by have:=o.size;simp at this;omega
 have h:Below w.heap.size w w1:=u.trans (o.mono Gg);have g0:w1.cell? ⟨w.heap.size,0,none⟩=some (.bool na):=by simp[f,go_sem]
 have g1:w1.cell? ⟨w.heap.size,1,none⟩=some (.slice A n c):=by simp[f,go_sem]
 have g2:w1.cell? ⟨w.heap.size+1,0,none⟩=some (.bool nb):=by simp[f,go_sem]
 have g3:w1.cell? ⟨w.heap.size+1,1,none⟩=some (.slice B m d):=by simp[f,go_sem]
 clear f C;go_wp2_with fail;refine(Zbs (hLb.below h) (by first|assumption|simp_all)).mono ?_;rintro e w2 ⟨rfl,y⟩;go_wp2_with fail;go_ret;exact⟨rfl,Gs h y⟩
theorem EA{G:Prop}(h:G:=by
 refine bodyPost_ret (v:=.tuple #[.agg #[.bool aD,.slice A3 n3 c3],.int .i64 aL]) (by simp[results,Tryz.results124,go_sem,m3,m4]) rfl ?_;exact ResW.box (HZ▸bY) cn Gk m7):G:=h
theorem CP{G:Prop}(h:G:=by
 have cn:Below w.heap.size w w3:=(ae.trans ((Zv aa).mono ae.size)).trans (ah.mono (Nat.le_trans ae.size (Zv aa).size))
 go_wp2
 have HZ:=HZZ l2 cA;exact EA):G:=h
theorem Ze9(na nb:Bool)(A B:Option Addr)(n c m d:Nat)(va vb:Nat)(w:World)(ha:Lim w A n c (digits va))(hb:Lim w B m d (digits vb))(hn:n<=4096)(hm:m<=4096) :
    Calls Tryz.prog 124 #[.agg #[.bool na,.slice A n c],.agg #[.bool nb,.slice B m d]] w (ResW w (sg na va+sg nb vb)):=by
 have y:Below w.heap.size w (((w.alloc (.cells #[.bool na,.slice A n c] 39)).alloc (.cells #[.bool nb,.slice B m d] 39)).alloc (.cells #[.bool false,.slice none 0 0] 39)):=(((Qb w.heap.size w).alloc (Qa _) _).alloc Gh _).alloc Gg _;have y:=Zd y;obtain⟨cv,T⟩:∃ x:Int,Zcm (digits va) (digits vb)=x:=⟨_,rfl⟩;have HC:=Zd T;have dz:0<=cv ↔ vb<=va:=by rw[<- T];exact Zhu
 have dz:=Zd dz;have HLA:=Zd ha.len;have HLB:=Zd hb.len;by_cases hs:na=nb
 ·subst hs
  clear T;have HZZ:∀ l:List Nat,val l=val (digits va)+val (digits vb)->sg na (val l)=sg na va+sg na vb:=λl h=>by rw[h,Zk,Zk,Zln]
  go_in;go_wp2_with fail;have ae:Below w.heap.size w (((w.alloc (.cells #[.bool na,.slice A n c] 39)).alloc (.cells #[.bool na,.slice B m d] 39)).alloc (.cells #[.bool false,.slice none 0 0] 39)):=(((Qb w.heap.size w).alloc (Qa _) _).alloc Gh _).alloc Gg _;have J:=ha.below ae;have u:=hb.below ae
  have g7:Blk (((w.alloc (.cells #[.bool na,.slice A n c] 39)).alloc (.cells #[.bool na,.slice B m d] 39)).alloc (.cells #[.bool false,.slice none 0 0] 39)) (w.heap.size+1+1) 39 #[.bool false,.slice none 0 0]:=by
   exact Cg
  generalize hWW:(((w.alloc (.cells #[.bool na,.slice A n c] 39)).alloc (.cells #[.bool na,.slice B m d] 39)).alloc (.cells #[.bool false,.slice none 0 0] 39))=w1 at *;have g0:w1.cell? ⟨w.heap.size,0,none⟩=some (.bool na):=by rw[<- hWW];simp[go_sem]
  have g1:w1.cell? ⟨w.heap.size,1,none⟩=some (.slice A n c):=by rw[<- hWW];simp[go_sem]
  have g2:w1.cell? ⟨w.heap.size+1,0,none⟩=some (.bool na):=by rw[<- hWW];simp[go_sem]
  have g3:w1.cell? ⟨w.heap.size+1,1,none⟩=some (.slice B m d):=by rw[<- hWW];simp[go_sem]
  have V:w.heap.size+1+1<w1.heap.size:=by rw[<- hWW];simp
  clear hWW;have g5:=g7.cell 0;have g6:=g7.cell 1;have g8:=g7.frozen 0;have g9:=g7.frozen 1;simp at g5 g6
  go_region_held3 (λw'=>w'.cell? ⟨w.heap.size,0,none⟩=some (.bool na)/\w'.cell? ⟨w.heap.size,1,none⟩=some (.slice A n c)/\w'.cell? ⟨w.heap.size+1,0,none⟩=some (.bool na)/\w'.cell? ⟨w.heap.size+1,1,none⟩=some (.slice B m d))
   (((try dsimp only);(repeat' apply QF);all_goals (first|go_keep|(simp[*,go_sem];done))))
   (first
    | (go_at_call 169;refine(Zzd _ _ _ _ _ _ _ _ _ (by exact J) (by exact u) Gk Gk).mono ?_;rintro e w2 ⟨A2,n2,c2,l2,rfl,C,cA,aa⟩;have k0:=Zc aa g0;have k1:=Zc aa g1;have j0:=Zc aa g2;have k2:=Zc aa g3;have k3:=Zc aa g5;have k4:=Zc aa g6;have k5:=Zo aa g5 g8;have k6:=Zo aa g6 g9;have k7:=Ze aa g7)
    | (go_at_call 74;refine(Zb0 _ _ _ _ _ _ (by exact C) (by have:=C.len;rw[cA.1]at this;omega)).mono ?_;rintro e w3 ⟨ah,aD,A3,n3,c3,aL,rfl,bY⟩;have m0:=Zc ah k0;have m1:=Zc ah k1;have i0:=Zc ah j0;have m2:=Zc ah k2;have m3:=Zc ah k3;have m4:=Zc ah k4;have m5:=Zo ah k3 k5;have m6:=Zo ah k4 k6;have m7:=Ze ah k7))
  have cn:Below w.heap.size w w3:=(ae.trans ((Zv aa).mono ae.size)).trans (ah.mono (Qe ae.size (Zv aa).size))
  go_wp2
  have HZ:=HZZ l2 cA.2;exact EA
 have Y:(na == nb)=false:=by simpa using hs
 by_cases eZ:0<=cv
 ·have I:=dz.out.1 eZ
  have HLE:Hid (m<=n):=by have:=Z6 I;rw[ha.len,hb.len]at this;exact this
  have HVL:Hid (val (digits vb)<=val (digits va)):=by rw[Zk,Zk];exact I
  have HZZ:∀ l:List Nat,l=digits (val (digits va)-val (digits vb))->sg na (val l)=sg na va+sg nb vb:=λl h=>Zfk hs (by rw[h,Zk,Zk,Zk];omega)
  have HLL:Hid ((digits (val (digits va)-val (digits vb))).length<=4096):=by
   have:=Z6 (show val (digits va)-val (digits vb)<=va by rw[Zk,Zk];omega);rw[HLA.out]at this;exact Qe this hn
  clear T I hs;go_in;go_wp2_with fail;refine(Zck _ _ _ _ _ _ _ _ _ (ha.below y.out) (hb.below y.out)).mono ?_;rintro e w1 ⟨O,o⟩;rw[HC.out]at O;subst O;obtain⟨f,U⟩:=Zc1 o;have V:w.heap.size+1+1<w1.heap.size:=by have:=o.size;simp at this;omega
  have ae:Below w.heap.size w w1:=y.out.trans (o.mono Gg);have g0:w1.cell? ⟨w.heap.size,0,none⟩=some (.bool na):=by simp[f,go_sem]
  have g1:w1.cell? ⟨w.heap.size,1,none⟩=some (.slice A n c):=by simp[f,go_sem]
  have g2:w1.cell? ⟨w.heap.size+1,0,none⟩=some (.bool nb):=by simp[f,go_sem]
  have g3:w1.cell? ⟨w.heap.size+1,1,none⟩=some (.slice B m d):=by simp[f,go_sem]
  have g7:Blk w1 (w.heap.size+1+1) 39 #[.bool false,.slice none 0 0]:=by
   refine Ze o ?_;exact Ev
  have g5:=g7.cell 0;have g6:=g7.cell 1;have g8:=g7.frozen 0;have g9:=g7.frozen 1;simp at g5 g6;clear f U;have J:=ha.below ae;have u:=hb.below ae;go_wp2_with fail
  go_region_held3 (λw'=>w'.cell? ⟨w.heap.size,0,none⟩=some (.bool na)/\w'.cell? ⟨w.heap.size,1,none⟩=some (.slice A n c)/\w'.cell? ⟨w.heap.size+1,0,none⟩=some (.bool nb)/\w'.cell? ⟨w.heap.size+1,1,none⟩=some (.slice B m d))
   (((try dsimp only);(repeat' apply QF);all_goals (first|go_keep|(simp[*,go_sem];done))))
   (first
    | (go_at_call 170;refine(Zob _ _ _ _ _ _ _ _ _ (by exact J) (by exact u) HLE.out HVL.out Gk).mono ?_;rintro e w2 ⟨A2,n2,c2,l2,rfl,C,cA,aa⟩;have k0:=Zc aa g0;have k1:=Zc aa g1;have j0:=Zc aa g2;have k2:=Zc aa g3;have k3:=Zc aa g5;have k4:=Zc aa g6;have k5:=Zo aa g5 g8;have k6:=Zo aa g6 g9;have k7:=Ze aa g7)
    | (go_at_call 74;refine(Zb0 _ _ _ _ _ _ (by exact C) (by have h1:=C.len;rw[cA]at h1;have h2:=HLL.out;omega)).mono ?_;rintro e w3 ⟨ah,aD,A3,n3,c3,aL,rfl,bY⟩;have m0:=Zc ah k0;have m1:=Zc ah k1;have i0:=Zc ah j0;have m2:=Zc ah k2;have m3:=Zc ah k3;have m4:=Zc ah k4;have m5:=Zo ah k3 k5;have m6:=Zo ah k4 k6;have m7:=Ze ah k7))
  exact CP
 have I:va<=vb:=by
   exact Ct
 have HLE:Hid (n<=m):=by have:=Z6 I;rw[ha.len,hb.len]at this;exact this
 have HVL:Hid (val (digits va)<=val (digits vb)):=by rw[Zk,Zk];exact I
 have HZZ:∀ l:List Nat,l=digits (val (digits vb)-val (digits va))->sg nb (val l)=sg na va+sg nb vb:=λl h=>by rw[Int.add_comm];exact Zfk (Ne.symm hs) (by rw[h,Zk,Zk,Zk];omega)
 have HLL:Hid ((digits (val (digits vb)-val (digits va))).length<=4096):=by
  have:=Z6 (show val (digits vb)-val (digits va)<=vb by rw[Zk,Zk];omega);rw[HLB.out]at this;exact Qe this hm
 clear T I hs;go_in;go_wp2_with fail;refine(Zck _ _ _ _ _ _ _ _ _ (ha.below y.out) (hb.below y.out)).mono ?_;rintro e w1 ⟨O,o⟩;rw[HC.out]at O;subst O;obtain⟨f,U⟩:=Zc1 o;have V:w.heap.size+1+1<w1.heap.size:=by have:=o.size;simp at this;omega
 have ae:Below w.heap.size w w1:=y.out.trans (o.mono Gg);have g0:w1.cell? ⟨w.heap.size,0,none⟩=some (.bool na):=by simp[f,go_sem]
 have g1:w1.cell? ⟨w.heap.size,1,none⟩=some (.slice A n c):=by simp[f,go_sem]
 have g2:w1.cell? ⟨w.heap.size+1,0,none⟩=some (.bool nb):=by simp[f,go_sem]
 have g3:w1.cell? ⟨w.heap.size+1,1,none⟩=some (.slice B m d):=by simp[f,go_sem]
 have g7:Blk w1 (w.heap.size+1+1) 39 #[.bool false,.slice none 0 0]:=by
  refine Ze o ?_;exact Ev
 have g5:=g7.cell 0;have g6:=g7.cell 1;have g8:=g7.frozen 0;have g9:=g7.frozen 1;simp at g5 g6;clear f U;have J:=ha.below ae;have u:=hb.below ae;go_wp2_with fail
 go_region_held3 (λw'=>w'.cell? ⟨w.heap.size,0,none⟩=some (.bool na)/\w'.cell? ⟨w.heap.size,1,none⟩=some (.slice A n c)/\w'.cell? ⟨w.heap.size+1,0,none⟩=some (.bool nb)/\w'.cell? ⟨w.heap.size+1,1,none⟩=some (.slice B m d))
  (((try dsimp only);(repeat' apply QF);all_goals (first|go_keep|(simp[*,go_sem];done))))
  (first
   | (go_at_call 170;refine(Zob _ _ _ _ _ _ _ _ _ (by exact u) (by exact J) HLE.out HVL.out Gk).mono ?_;rintro e w2 ⟨A2,n2,c2,l2,rfl,C,cA,aa⟩;have k0:=Zc aa g0;have k1:=Zc aa g1;have j0:=Zc aa g2;have k2:=Zc aa g3;have k3:=Zc aa g5;have k4:=Zc aa g6;have k5:=Zo aa g5 g8;have k6:=Zo aa g6 g9;have k7:=Ze aa g7)
   | (go_at_call 74;refine(Zb0 _ _ _ _ _ _ (by exact C) (by have h1:=C.len;rw[cA]at h1;have h2:=HLL.out;omega)).mono ?_;rintro e w3 ⟨ah,aD,A3,n3,c3,aL,rfl,bY⟩;have m0:=Zc ah k0;have m1:=Zc ah k1;have i0:=Zc ah j0;have m2:=Zc ah k2;have m3:=Zc ah k3;have m4:=Zc ah k4;have m5:=Zo ah k3 k5;have m6:=Zo ah k4 k6;have m7:=Ze ah k7))
 exact CP
def NumW(w:World)(z:Int)(e:Ending)(w':World):Prop:=
 Below w.heap.size w w'/\∃ neg A n c,e=.returned (.agg #[.bool neg,.slice A n c])/\Wd w' neg A n c z
theorem Lim.pair(w:World)(t:TypeId){v:Nat}(hv:v<18446744073709551616){X Y:Int}(hX:X=(v%4294967296:Nat))(hY:Y=(v/4294967296:Nat)) :
    Lim (w.alloc (.cells #[.int .u32 X,.int .u32 Y] t)) (some ⟨w.heap.size,0,none⟩) 2 2 [v%4294967296,v/4294967296]:=by
 subst hX hY;exact Lim.of_blk (l:=[v%4294967296,v/4294967296]) (Qq w t _) (Lt32.cons (Qr _ Gj) (Lt32.cons Gk Lt32.nil)) (by unfold maxLen;simp)
theorem Lim.pair2(w:World)(o:Obj)(t:TypeId){v:Nat}(hv:v<18446744073709551616){X Y:Int}(hX:X=(v%4294967296:Nat))(hY:Y=(v/4294967296:Nat)) :
    Lim ((w.alloc o).alloc (.cells #[.int .u32 X,.int .u32 Y] t)) (some ⟨w.heap.size+1,0,none⟩) 2 2 [v%4294967296,v/4294967296]:=by
 have:=Lim.pair (w.alloc o) t hv hX hY;rw[World.size_alloc]at this;exact this
theorem Zic{z:Int}(h:z.natAbs<=9223372036854775808):z.natAbs<pw 4096:=
 QG (Ql h (show 9223372036854775808<pw 2 by decide)) (Zca Gk)
theorem ResP.small{w:World}{z:Int}{neg:Bool}{A:Option Addr}{n c:Nat}{code:Int}(h:ResP w z neg A n c code)(hs:z.natAbs<pw 4096):Wd w neg A n c z:=by
 rcases h with ⟨_,_,h⟩|⟨h,_⟩;exact h;omega
theorem Wd.alloc{w:World}{neg:Bool}{A:Option Addr}{n c:Nat}{z:Int}(h:Wd w neg A n c z)(o:Obj):Wd (w.alloc o) neg A n c z:=⟨h.1,h.2.1,h.2.2.alloc o⟩
theorem NumW.box{w w3:World}{z:Int}{neg:Bool}{A:Option Addr}{n c:Nat}{g:Nat}{t:TypeId}{b0:Bool}{A0:Option Addr}{n0 c0:Nat}(hP:Wd w3 neg A n c z)(hB:Below w.heap.size w w3)(hg:w.heap.size<=g)(hb:Blk w3 g t #[.bool b0,.slice A0 n0 c0]) :
    NumW w z (.returned (.agg #[.bool neg,.slice A n c])) ((w3.setCell ⟨g,0,none⟩ (.bool neg)).setCell ⟨g,1,none⟩ (.slice A n c)):=by
 have e:Blk (w3.setCell ⟨g,0,none⟩ (.bool neg)) g t #[.bool neg,.slice A0 n0 c0]:=hb.set_ 0 (.bool neg);exact⟨(hB.setCell (p:=⟨g,0,none⟩) hg _).setCell (p:=⟨g,1,none⟩) hg _,_,_,_,_,rfl,hP.1,hP.2.1,(hP.2.2.set_box hb (NoLimb.box _ _ _ _) _ _).set_box e (NoLimb.box _ _ _ _) _ _⟩
theorem NumW.alloc{w w':World}{z:Int}{e:Ending}(h:NumW w z e w')(o:Obj):NumW w z e (w'.alloc o):=by
 obtain⟨hb,neg,A,n,c,he,hw⟩:=h;exact⟨hb.alloc hb.size _,neg,A,n,c,he,hw.alloc o⟩
theorem ES{G:Prop}(h:G:=by
 have ae:Below w.heap.size w w1:=(aq.alloc aq.size _).trans (ab.mono Gg);have m7:=Ze ab (Blk.alloc (Blk.new w 39 #[.bool false,.slice none 0 0]) _);have m3:=m7.cell 0;have m4:=m7.cell 1;have m5:=m7.frozen 0;have m6:=m7.frozen 1;simp at m3 m4;have bF:=m7.lt;have HM:=Zd m7;clear m7 hz bT;go_wp2_with fail;refine bodyPost_ret (v:=.agg #[.bool aT,.slice A1 n1 c1]) (by simp[results,Tryz.results114,go_sem,m3,m4,bF]) rfl ?_;exact(NumW.box eB ae (Nat.le_refl _) HM.out).alloc _):G:=h
theorem Zsd(v:Nat)(w:World)(hv:v<9223372036854775808) :
    Calls Tryz.prog 114 #[.int .i64 v] w (NumW w (v)):=by
 have h:decide ((v:Int)<0)=false:=Gh
 go_in;go_wp2_with fail;have aq:Below w.heap.size w (w.alloc (.cells #[.bool false,.slice none 0 0] 39)):=(Qb w.heap.size w).alloc (Qa _) _
 refine(Zcb _ _ _ _ [v%4294967296,v/4294967296] _ (by
  refine Lim.pair2 w _ _ Gk ?_ ?_ <;> first|rfl|omega|(simp only[Qg];omega))).mono ?_
 rintro e w1 ⟨ab,aT,A1,n1,c1,f,rfl,bT⟩;have hz:sg false (val [v%4294967296,v/4294967296])=v:=by simp[sg,val];omega
 rw[hz]at bT;have eB:Wd w1 aT A1 n1 c1 (v):=bT.small (Zic Gk);exact ES
theorem Zzp(v:Nat)(w:World)(hv0:0<v)(hv:v<=9223372036854775808) :
    Calls Tryz.prog 114 #[.int .i64 (-(v:Int))] w (NumW w (-(v:Int))):=by
 have h:decide (-(v:Int)<0)=true:=by simp;omega
 go_in;go_wp2_with fail;have aq:Below w.heap.size w (w.alloc (.cells #[.bool false,.slice none 0 0] 39)):=(Qb w.heap.size w).alloc (Qa _) _
 refine(Zcb _ _ _ _ [v%4294967296,v/4294967296] _ (by
  refine Lim.pair2 w _ _ Gk ?_ ?_ <;> first|rfl|omega|(simp only[Qg];omega))).mono ?_
 rintro e w1 ⟨ab,aT,A1,n1,c1,f,rfl,bT⟩;have hz:sg true (val [v%4294967296,v/4294967296])=-(v:Int):=by simp[sg,val];omega
 rw[hz]at bT;have eB:Wd w1 aT A1 n1 c1 (-(v:Int)):=bT.small (Zic Gk);exact ES
theorem EQ{G:Prop}(h:G:=by
 have ae:Below w.heap.size w w1:=(aq.alloc aq.size _).trans (ab.mono Gg);have m7:=Ze ab (Blk.alloc (Blk.new w 39 #[.bool false,.slice none 0 0]) _);have m3:=m7.cell 0;have m4:=m7.cell 1;have m5:=m7.frozen 0;have m6:=m7.frozen 1;simp at m3 m4;have bF:=m7.lt;have HM:=Zd m7;clear m7 hz bT;go_wp2_with fail;refine bodyPost_ret (v:=.agg #[.bool aT,.slice A1 n1 c1]) (by simp[results,Tryz.results32,go_sem,m3,m4,bF]) rfl ?_;exact(NumW.box eB ae (Nat.le_refl _) HM.out).alloc _):G:=h
theorem Zo0(v:Nat)(w:World)(hv:v<9223372036854775808) :
    Calls Tryz.prog 32 #[.int .i64 v] w (NumW w (v)):=by
 have h:decide ((v:Int)<0)=false:=Gh
 go_in;go_wp2_with fail;have aq:Below w.heap.size w (w.alloc (.cells #[.bool false,.slice none 0 0] 39)):=(Qb w.heap.size w).alloc (Qa _) _
 refine(Zb0 _ _ _ _ [v%4294967296,v/4294967296] _ (by
  refine Lim.pair2 w _ _ Gk ?_ ?_ <;> first|rfl|omega|(simp only[Qg];omega)) Gk).mono ?_
 rintro e w1 ⟨ab,aT,A1,n1,c1,f,rfl,bT⟩;have hz:sg false (val [v%4294967296,v/4294967296])=v:=by simp[sg,val];omega
 rw[hz]at bT;have eB:Wd w1 aT A1 n1 c1 (v):=bT.small (Zic Gk);exact EQ
theorem Zyg(v:Nat)(w:World)(hv0:0<v)(hv:v<=9223372036854775808) :
    Calls Tryz.prog 32 #[.int .i64 (-(v:Int))] w (NumW w (-(v:Int))):=by
 have h:decide (-(v:Int)<0)=true:=by simp;omega
 go_in;go_wp2_with fail;have aq:Below w.heap.size w (w.alloc (.cells #[.bool false,.slice none 0 0] 39)):=(Qb w.heap.size w).alloc (Qa _) _
 refine(Zb0 _ _ _ _ [v%4294967296,v/4294967296] _ (by
  refine Lim.pair2 w _ _ Gk ?_ ?_ <;> first|rfl|omega|(simp only[Qg];omega)) Gk).mono ?_
 rintro e w1 ⟨ab,aT,A1,n1,c1,f,rfl,bT⟩;have hz:sg true (val [v%4294967296,v/4294967296])=-(v:Int):=by simp[sg,val];omega
 rw[hz]at bT;have eB:Wd w1 aT A1 n1 c1 (-(v:Int)):=bT.small (Zic Gk);exact EQ
theorem Zb3(z:Int)(w:World)(h1:-9223372036854775808<=z)(h2:z<=9223372036854775807):Calls Tryz.prog 114 #[.int .i64 z] w (NumW w z):=by
 rcases Int.le_total 0 z with h|h
 ·obtain⟨v,rfl⟩:=Qi h
  exact Zsd v w Gk
 rcases Qi (show 0 <= -z by omega)with ⟨v,hv⟩;obtain rfl:z=-(v:Int):=Gk;rcases Qc v with rfl|h0;exact Zsd 0 w Gk;exact Zzp v w h0 Gk
theorem Zc6(z:Int)(w:World)(h1:-9223372036854775808<=z)(h2:z<=9223372036854775807):Calls Tryz.prog 32 #[.int .i64 z] w (NumW w z):=by
 rcases Int.le_total 0 z with h|h
 ·obtain⟨v,rfl⟩:=Qi h
  exact Zo0 v w Gk
 rcases Qi (show 0 <= -z by omega)with ⟨v,hv⟩;obtain rfl:z=-(v:Int):=Gk;rcases Qc v with rfl|h0;exact Zo0 0 w Gk;exact Zyg v w h0 Gk
theorem Zd5(neg:Bool)(A:Option Addr)(n c:Nat)(w:World) :
    Calls Tryz.prog 132 #[.agg #[.bool neg,.slice A n c],.int .i64 0] w λe w'=>e=.returned (.agg #[.bool neg,.slice A n c])/\Below w.heap.size w w':=by
 go_in;go_wp2_with fail;refine bodyPost_ret (v:=.agg #[.bool neg,.slice A n c]) (by simp[results,Tryz.results132,go_sem]) rfl ?_;exact⟨rfl,by go_grown⟩
theorem Zkc(neg:Bool)(A:Option Addr)(n c:Nat)(w:World)(hn:n<=1000000000)(b:Bool)(hb:((n:Int) == 0)=b) :
    Calls Tryz.prog 152 #[.agg #[.bool neg,.slice A n c]] w λe w'=>e=.returned (.bool b)/\Below w.heap.size w w':=by
 go_in;go_wp2_with fail;go_ret;exact⟨rfl,by go_grown⟩
theorem one_ok(w:World):Calls Tryz.prog 154 #[] w (NumW w 1):=by
 have f:∀ X:Obj,Below w.heap.size w (w.alloc X):=λX=>(Qb w.heap.size w).alloc (Qa _) _;have f:=Zd f;go_in;go_wp2_with fail;refine(Zb3 1 _ Gk Gk).mono ?_;rintro e w1 ⟨h,o,A1,n1,c1,rfl,y⟩;have u:Below w.heap.size w w1:=(f.out _).trans (h.mono Gh);have m8:=Ze h (Qq w 39 #[.bool false,.slice none 0 0]);have m3:=m8.cell 0;have m4:=m8.cell 1;have m5:=m8.frozen 0;have m6:=m8.frozen 1;simp at m3 m4;replace m8:=Zd m8;go_wp2_with fail;refine bodyPost_ret (v:=.agg #[.bool o,.slice A1 n1 c1]) (by simp[results,Tryz.results154,go_sem,m3,m4]) rfl ?_;exact NumW.box y u (Qa _) m8.out
theorem Zz4(na nb:Bool)(A B:Option Addr)(n c m d:Nat)(za zb:Int)(w:World)(ha:Wd w na A n c za)(hb:Wd w nb B m d zb)(b:Bool)(he:decide (za=zb)=b) :
    Calls Tryz.prog 153 #[.agg #[.bool na,.slice A n c],.agg #[.bool nb,.slice B m d]] w λe w'=>e=.returned (.bool b)/\Below w.heap.size w w':=by
 have u:((Zco za zb) == 0)=b:=by
  rw[<- he];unfold Zco;by_cases h1:za<zb
  ·rw[Gx h1];have:za≠zb:=Gk
   simp[this]
  rw[Gw h1];by_cases h2:zb<za
  ·rw[Gx h2];have:za≠zb:=Gk
   simp[this]
  rw[Gw h2];have:za=zb:=Gk;simp[this]
 have HA:=Zd ha;have HB:=Zd hb;clear ha hb he;have h:∀ X Y:Obj,Below w.heap.size w ((w.alloc X).alloc Y):=λX Y=>((Qb w.heap.size w).alloc (Qa _) _).alloc Gh _;have h:=Zd h;obtain⟨cz,f⟩:=Gz (Zco za zb);rw[f]at u
 have HC:Hid (∀ W:World,Wd W na A n c za->Wd W nb B m d zb->Calls Tryz.prog 121 #[.agg #[.bool na,.slice A n c],.agg #[.bool nb,.slice B m d]] W λe w'=>e=.returned (.tuple #[.int .i64 cz,.int .i64 0])/\Below W.heap.size W w'):=λW h1 h2=>by
  have:=Zre na nb A B n c m d za zb W h1 h2;rw[f]at this;exact this
 clear f;go_in;go_wp2_with fail;refine(HC.out _ ((HA.out.alloc _).alloc _) ((HB.out.alloc _).alloc _)).mono ?_;rintro e w1 ⟨rfl,o⟩;go_wp2_with fail;go_ret;exact⟨rfl,(h.out _ _).trans (o.mono Gg)⟩
def Low(num den:Int):Prop:=0<den/\Qh num.natAbs den.natAbs=1
theorem Zd0{a b:Nat}{p:Nat}(ha:a<p)(hb:b<p):Qh a b<p:=by
 rcases Qc a with rfl|h;rw[Nat.gcd_zero_left];exact hb;exact Ql (Nat.le_of_dvd h (QK a b)) ha
theorem Zmh(na:Bool)(A B:Option Addr)(n c m d:Nat)(za zb:Int)(w:World)(ha:Wd w na A n c za)(hb:Wd w false B m d zb)(hp:0<zb)(b:Bool)(hg:decide ((Nat.gcd za.natAbs zb.natAbs:Int)=1)=b) :
    Calls Tryz.prog 110 #[.agg #[.bool na,.slice A n c,.bool false,.slice B m d]] w λe w'=>e=.returned (.int .i64 (if b then 0 else 8))/\Below w.heap.size w w':=by
 have a8:0<m:=by rw[<- hb.lim.len];exact length_digits_pos.2 Gk
 have a0:((m:Int) == 0)=false:=by simp;omega
 have hm:=hb.2.1;have a4:=Zd0 ha.small hb.small;obtain⟨G,hG⟩:=Gz (Qh za.natAbs zb.natAbs);rw[hG]at hg a4;have HA:=Zd ha;have HB:=Zd hb
 have HGc:Hid (∀ W:World,Wd W na A n c za->Wd W false B m d zb->Calls Tryz.prog 151 #[.agg #[.bool na,.slice A n c],.agg #[.bool false,.slice B m d]] W (ResW W (G:Int))):=λW h1 h2=>by
  have:=Zk2 na false A B n c m d za zb W h1 h2;rw[hG]at this;exact this
 clear ha hb hG;have C:∀ X:Obj,Below w.heap.size w (w.alloc X):=λX=>(Qb w.heap.size w).alloc (Qa _) _;have C:=Zd C;go_in;go_wp2_with fail;refine(HGc.out _ (HA.out.alloc _) (HB.out.alloc _)).mono ?_;rintro e w1 ⟨I,ng,Ag,kg,cg,code,rfl,hR⟩;rcases hR with ⟨-,rfl,T⟩|⟨V,-⟩
 case inr=>exact absurd V Gk
 obtain⟨J,a5⟩:=Zc1 I;have a7:w.heap.size<w1.heap.size:=by have:=I.size;simp at this;omega
 have O:Below w.heap.size w w1:=(C.out _).trans (I.mono Gh);have g2:w1.cell? ⟨w.heap.size,2,none⟩=some (.bool false):=by simp[J,go_sem]
 have g3:w1.cell? ⟨w.heap.size,3,none⟩=some (.slice B m d):=by simp[J,go_sem]
 have y:Below w1.heap.size w1 (w1.alloc (.cells #[.bool ng,.slice Ag kg cg] 39)):=(Qb _ _).alloc (Qa _) _;have bg:=Zd (Qq w1 39 #[.bool ng,.slice Ag kg cg]);have a2:=Zc y g2;have a3:=Zc y g3;have Y:=Zd (T.alloc (.cells #[.bool ng,.slice Ag kg cg] 39));have u:=Zd (Gs O y);clear J a5 g2 g3 T;go_wp2_with fail;generalize w1.alloc _=w2 at *;have p0:=bg.out.cell 0;have p1:=bg.out.cell 1;simp at p0 p1
 go_region_held3 (λw'=>w'.cell? ⟨w.heap.size,2,none⟩=some (.bool false)/\w'.cell? ⟨w.heap.size,3,none⟩=some (.slice B m d)/\w'.cell? ⟨w1.heap.size,0,none⟩=some (.bool ng)/\w'.cell? ⟨w1.heap.size,1,none⟩=some (.slice Ag kg cg))
  (((try dsimp only);(repeat' apply QF);all_goals (first|go_keep|(simp[*,go_sem];done))))
  (first
   | (go_at_call 152;refine(Zkc _ _ _ _ _ Gk _ a0).mono ?_;rintro e w3 ⟨rfl,a6⟩;have f:=Zv a6;have k2:=Zc f a2;have k3:=Zc f a3;have k0:=Zc f p0;have k1:=Zc f p1)
   | (go_at_call 154;refine(one_ok _).mono ?_;rintro e w4 ⟨h,n4,A4,m4,c4,rfl,a1⟩;have j2:=Zc h k2;have j3:=Zc h k3;have j0:=Zc h k0;have j1:=Zc h k1)
   | (go_at_call 153;refine(Zz4 _ _ _ _ _ _ _ _ _ _ _ ((Y.out.below f).below h) a1 b hg).mono ?_;rintro e w5 ⟨rfl,o⟩;have i2:=Zc o j2;have i3:=Zc o j3;have i0:=Zc o j0;have i1:=Zc o j1))
 have U:Hid (Below w.heap.size w w5):=((Gs u.out f).trans (h.mono (Qe u.out.size f.size))).trans (o.mono (Qe u.out.size (Qe f.size h.size)));cases b
 ·go_wp2_with fail
  go_ret;exact⟨rfl,U.out⟩
 go_wp2_with fail;go_ret;exact⟨rfl,U.out⟩
def Zgi(a b:Int):Int:=if b<0 then -(Qh a.natAbs b.natAbs:Nat)else (Qh a.natAbs b.natAbs:Nat)
theorem Zl7{a b:Int}(h:b≠0):Zgi a b≠0:=by
 have:0<Qh a.natAbs b.natAbs:=Qx _ Gk;unfold Zgi;split <;> omega
theorem Zkg(a b:Int):((Qh a.natAbs b.natAbs:Nat):Int) ∣ a:=by
 rw[<- Int.dvd_natAbs];exact Int.ofNat_dvd.2 (QK _ _)
theorem Zoc(a b:Int):((Qh a.natAbs b.natAbs:Nat):Int) ∣ b:=by
 rw[<- Int.dvd_natAbs];exact Int.ofNat_dvd.2 (Nat.gcd_dvd_right _ _)
theorem Zyo(a b:Int):Zgi a b ∣ a:=by
 unfold Zgi;split;exact Int.neg_dvd.2 (Zkg a b);exact Zkg a b
theorem Zyr(a b:Int):Zgi a b ∣ b:=by
 unfold Zgi;split;exact Int.neg_dvd.2 (Zoc a b);exact Zoc a b
theorem Ztl(a b:Int):Int.gcd b a=Qh a.natAbs b.natAbs:=by unfold Int.gcd;exact Nat.gcd_comm _ _
theorem Zkf{a b:Int}(h:b≠0):Int.fdiv a (Zgi a b)=(QB a b).num:=by
 rw[Qy (Zyo a b),Rat.num_divInt,Ztl];unfold Zgi;obtain⟨k,hk⟩:=Zkg a b
 have hg:((Qh a.natAbs b.natAbs:Nat):Int)≠0:=by
  have:0<Qh a.natAbs b.natAbs:=Qx _ Gk;omega
 split
 ·rename_i hb
  rw[Int.ediv_neg,Int.sign_eq_neg_one_of_neg hb,show (-1:Int)*a=-a by omega,QE (Zkg a b)]
 rw[Int.sign_eq_one_of_pos Gk,Int.one_mul]
theorem Zjy{a b:Int}(h:b≠0):Int.fdiv b (Zgi a b)=((QB a b).den:Nat):=by
 rw[Qy (Zyr a b),Rat.den_divInt,Ztl,Gw h];unfold Zgi
 split
 ·rename_i hb
  rw[Int.ediv_neg,<- QE (Zoc a b),show -b=((b.natAbs:Nat):Int) by omega,QL]
 rw[QL,show ((b.natAbs:Nat):Int)=b by omega]
theorem Zwj(r:Rat):Low r.num r.den:=⟨by have:=r.den_pos;omega,by simpa using r.reduced⟩
theorem rat_low{a b:Int}(h:Low a b):(QB a b).num=a/\((QB a b).den:Int)=b:=by
 have h0:b≠0:=by have:=h.1;omega
 have hG:Zgi a b=1:=by unfold Zgi;rw[Gw (by have:=h.1;omega),h.2];rfl
 rw[<- Zkf h0,<- Zjy h0,hG];simp
def Fr(w:World)(na:Bool)(A:Option Addr)(n c:Nat)(nb:Bool)(B:Option Addr)(m d:Nat)(r:Rat):Prop:=Wd w na A n c r.num/\Wd w nb B m d (r.den:Nat)
theorem Fr.below{w w':World}{na:Bool}{A:Option Addr}{n c:Nat}{nb:Bool}{B:Option Addr}{m d:Nat}{r:Rat}(h:Fr w na A n c nb B m d r)(hb:Below w.heap.size w w'):Fr w' na A n c nb B m d r:=⟨h.1.below hb,h.2.below hb⟩
theorem Fr.neg{w:World}{na:Bool}{A:Option Addr}{n c:Nat}{nb:Bool}{B:Option Addr}{m d:Nat}{r:Rat}(h:Fr w na A n c nb B m d r):nb=false:=by
 have:=h.2.1;rw[this];simp
def Zdp(w:World)(r:Rat)(e:Ending)(w':World):Prop:=
 Below w.heap.size w w'/\∃ na A n c nb B m d,e=.returned (.agg #[.bool na,.slice A n c,.bool nb,.slice B m d])/\Fr w' na A n c nb B m d r
def Zev(w:World)(r:Rat)(e:Ending)(w':World):Prop:=
 Below w.heap.size w w'/\∃ na A n c nb B m d,e=.returned (.tuple #[.agg #[.bool na,.slice A n c,.bool nb,.slice B m d],.int .i64 0])/\Fr w' na A n c nb B m d r
def Zwd(w W:World)(g:Nat):Prop:=
 (∀ na A n c z,Wd w na A n c z->Wd W na A n c z)/\(∀ g' t' cs',g'≠g->Blk w g' t' cs'->Blk W g' t' cs')/\W.heap.size=w.heap.size
theorem NoLimb.box4(b:Bool)(A:Option Addr)(n c:Nat)(b':Bool)(A':Option Addr)(n' c':Nat):NoLimb #[.bool b,.slice A n c,.bool b',.slice A' n' c']:=λi x=>by
 rcases i with _|_|_|_|i <;> simp
theorem Zaz{t:TypeId}{B:Nat}{w0 w:World}{g:Nat}{b0:Bool}{A0:Option Addr}{n0 c0:Nat}(neg:Bool)(A:Option Addr)(n c:Nat)(hB:Below B w0 w)(hs:B<=g)(hb:Blk w g t #[.bool b0,.slice A0 n0 c0]) :
    ∃ W,(w.setCell ⟨g,0,none⟩ (.bool neg)).setCell ⟨g,1,none⟩ (.slice A n c)=W/\Below B w0 W/\Blk W g t #[.bool neg,.slice A n c]/\Zwd w W g:=by
 have e:Blk (w.setCell ⟨g,0,none⟩ (.bool neg)) g t #[.bool neg,.slice A0 n0 c0]:=hb.set_ 0 (.bool neg);have f:Blk ((w.setCell ⟨g,0,none⟩ (.bool neg)).setCell ⟨g,1,none⟩ (.slice A n c)) g t #[.bool neg,.slice A n c]:=e.set_ 1 (.slice A n c);refine⟨_,rfl,(hB.setCell (p:=⟨g,0,none⟩) hs _).setCell (p:=⟨g,1,none⟩) hs _,f,λna A' n' c' z hW=>⟨hW.1,hW.2.1,(hW.2.2.set_box hb (NoLimb.box _ _ _ _) _ _).set_box e (NoLimb.box _ _ _ _) _ _⟩,λg' t' cs' hg h=>(h.far hg _).far hg _,by simp⟩
theorem Z5{t:TypeId}{B:Nat}{w0 w:World}{g:Nat}{a0:Bool}{A0:Option Addr}{n0 c0:Nat}{b0:Bool}{B0:Option Addr}{m0 d0:Nat}(na:Bool)(A:Option Addr)(n c:Nat)(nb:Bool)(B':Option Addr)(m d:Nat)(hB:Below B w0 w)(hs:B<=g)(hb:Blk w g t #[.bool a0,.slice A0 n0 c0,.bool b0,.slice B0 m0 d0]) :
    ∃ W,(((w.setCell ⟨g,0,none⟩ (.bool na)).setCell ⟨g,1,none⟩ (.slice A n c)).setCell ⟨g,2,none⟩ (.bool nb)).setCell ⟨g,3,none⟩ (.slice B' m d)=W/\Below B w0 W/\Blk W g t #[.bool na,.slice A n c,.bool nb,.slice B' m d]/\Zwd w W g:=by
 have o:Blk (w.setCell ⟨g,0,none⟩ (.bool na)) g t #[.bool na,.slice A0 n0 c0,.bool b0,.slice B0 m0 d0]:=hb.set_ 0 (.bool na);have e:Blk ((w.setCell ⟨g,0,none⟩ (.bool na)).setCell ⟨g,1,none⟩ (.slice A n c)) g t #[.bool na,.slice A n c,.bool b0,.slice B0 m0 d0]:=o.set_ 1 (.slice A n c);have f:Blk (((w.setCell ⟨g,0,none⟩ (.bool na)).setCell ⟨g,1,none⟩ (.slice A n c)).setCell ⟨g,2,none⟩ (.bool nb)) g t #[.bool na,.slice A n c,.bool nb,.slice B0 m0 d0]:=e.set_ 2 (.bool nb);have u:Blk ((((w.setCell ⟨g,0,none⟩ (.bool na)).setCell ⟨g,1,none⟩ (.slice A n c)).setCell ⟨g,2,none⟩ (.bool nb)).setCell ⟨g,3,none⟩ (.slice B' m d)) g t #[.bool na,.slice A n c,.bool nb,.slice B' m d]:=f.set_ 3 (.slice B' m d);have hl:=NoLimb.box4;refine⟨_,rfl,(((hB.setCell (p:=⟨g,0,none⟩) hs _).setCell (p:=⟨g,1,none⟩) hs _).setCell (p:=⟨g,2,none⟩) hs _).setCell (p:=⟨g,3,none⟩) hs _,u,λna A' n' c' z hW=>⟨hW.1,hW.2.1,?_⟩,λg' t' cs' hg h=>(((h.far hg _).far hg _).far hg _).far hg _,by simp⟩;exact(((hW.2.2.set_box hb (hl _ _ _ _ _ _ _ _) _ _).set_box o (hl _ _ _ _ _ _ _ _) _ _).set_box e (hl _ _ _ _ _ _ _ _) _ _).set_box f (hl _ _ _ _ _ _ _ _) _ _
theorem Blk.two{w:World}{g:Nat}{t:TypeId}{x y:Value}(h:Blk w g t #[x,y]):w.cell? ⟨g,0,none⟩=some x/\w.cell? ⟨g,1,none⟩=some y/\w.frozen? ⟨g,0,none⟩=false/\w.frozen? ⟨g,1,none⟩=false:=
 ⟨h.cell 0,h.cell 1,h.frozen 0,h.frozen 1⟩
theorem Blk.four{w:World}{g:Nat}{t:TypeId}{x y z v:Value}(h:Blk w g t #[x,y,z,v]):w.cell? ⟨g,0,none⟩=some x/\w.cell? ⟨g,1,none⟩=some y/\w.cell? ⟨g,2,none⟩=some z/\w.cell? ⟨g,3,none⟩=some v/\w.frozen? ⟨g,0,none⟩=false/\w.frozen? ⟨g,1,none⟩=false/\w.frozen? ⟨g,2,none⟩=false/\w.frozen? ⟨g,3,none⟩=false:=
 ⟨h.cell 0,h.cell 1,h.cell 2,h.cell 3,h.frozen 0,h.frozen 1,h.frozen 2,h.frozen 3⟩
theorem Zq{B:Nat}{w0 w:World}(t:TypeId)(cs:Array Value)(hB:Below B w0 w)(hs:B<=w.heap.size) :
    ∃ W,w.alloc (.cells cs t)=W/\Below B w0 W/\Blk W w.heap.size t cs/\(∀ na A n c z,Wd w na A n c z->Wd W na A n c z)/\(∀ g' t' cs',Blk w g' t' cs'->Blk W g' t' cs')/\W.heap.size=w.heap.size+1:=
 ⟨_,rfl,hB.alloc hs _,Qq _ _ _,λ_ _ _ _ _ h=>h.alloc _,λ_ _ _ h=>h.alloc _,by simp⟩
theorem Zda(w:World)(t0:TypeId)(c0:Array Value)(t1:TypeId)(c1:Array Value) :
    ∃ W,(w.alloc (.cells c0 t0)).alloc (.cells c1 t1)=W/\Below w.heap.size w W/\(Blk W w.heap.size t0 c0/\Blk W (w.heap.size+1) t1 c1)/\W.heap.size=w.heap.size+1+1:=by
 refine⟨_,rfl,((Qb w.heap.size w).alloc (Qa _) _).alloc Gh _,⟨(Qq _ _ _).alloc _,?_⟩,by simp⟩;have:=Qq (w.alloc (.cells c0 t0)) t1 c1;exact Et
theorem Zb2(w:World)(t0:TypeId)(c0:Array Value)(t1:TypeId)(c1:Array Value)(t2:TypeId)(c2:Array Value) :
    ∃ W,((w.alloc (.cells c0 t0)).alloc (.cells c1 t1)).alloc (.cells c2 t2)=W/\Below w.heap.size w W/\(Blk W w.heap.size t0 c0/\Blk W (w.heap.size+1) t1 c1/\Blk W (w.heap.size+1+1) t2 c2)/\W.heap.size=w.heap.size+1+1+1:=by
 obtain⟨W,hW,h1,h2,h3⟩:=Zda w t0 c0 t1 c1;refine⟨_,rfl,?_,⟨?_,?_,?_⟩,by rw[hW];simp[h3]⟩ <;> rw[hW];exact h1.alloc Gk _;exact h2.1.alloc _;exact h2.2.alloc _;rw[<- h3];exact Qq _ _ _
theorem Zfr(w:World)(t0:TypeId)(c0:Array Value)(t1:TypeId)(c1:Array Value)(t2:TypeId)(c2:Array Value)(t3:TypeId)(c3:Array Value) :
    ∃ W,(((w.alloc (.cells c0 t0)).alloc (.cells c1 t1)).alloc (.cells c2 t2)).alloc (.cells c3 t3)=W/\Below w.heap.size w W/\(Blk W w.heap.size t0 c0/\Blk W (w.heap.size+1) t1 c1/\Blk W (w.heap.size+1+1) t2 c2/\Blk W (w.heap.size+1+1+1) t3 c3)/\W.heap.size=w.heap.size+1+1+1+1:=by
 obtain⟨W,hW,h1,h2,h3⟩:=Zb2 w t0 c0 t1 c1 t2 c2;refine⟨_,rfl,?_,⟨?_,?_,?_,?_⟩,by rw[hW];simp[h3]⟩ <;> rw[hW];exact h1.alloc Gk _;exact h2.1.alloc _;exact h2.2.1.alloc _;exact h2.2.2.alloc _;rw[<- h3];exact Qq _ _ _
theorem Zak{t:TypeId}{B:Nat}{w0 w:World}{g:Nat}{x0:Int}(x:Int)(hB:Below B w0 w)(hs:B<=g)(hb:Blk w g t #[.int .i64 x0]) :
    ∃ W,w.setCell ⟨g,0,none⟩ (.int .i64 x)=W/\Below B w0 W/\Blk W g t #[.int .i64 x]/\Zwd w W g:=by
 have e:Blk (w.setCell ⟨g,0,none⟩ (.int .i64 x)) g t #[.int .i64 x]:=hb.set_ 0 (.int .i64 x);have hl:NoLimb #[.int .i64 x0]:=λi x=>by rcases i with _|i <;> simp
 exact⟨_,rfl,hB.setCell (p:=⟨g,0,none⟩) hs _,e,λna A' n' c' z hW=>⟨hW.1,hW.2.1,hW.2.2.set_box hb hl _ _⟩,λg' t' cs' hg h=>h.far hg _,by simp⟩
theorem Zpu(A:Option Addr)(n c s:Nat)(l:List Nat)(w:World)(h:Lim w A n c l)(hs:s<32)(hn9:n<=1000000) :
    Calls Tryz.prog 141 #[.slice A n c,.int .u64 s] w (λe w'=>∃ v o,e=.returned v/\OwnL 106 w' w.heap.size v o/\o.length=n+1/\val o=2^s*val l/\Below w.heap.size w w'):=by
 obtain⟨i0,hi,I,O,T⟩:=info_parts Zdn;have a2:=h.2.1;have C:=h.2.2.1;unfold maxLen at C;go_in;go_wp2_with fail
 go_loopw [7,6,5] (λiv cv ov wr=>∃ i cy:Nat,i<=n/\iv=.int .i64 i/\cv=.int .u64 cy/\LeftP w s l i cy ov wr) (λiv _ _ _=>n-(intOf iv).toNat)
 case atStart=>exact⟨0,0,Qo _,rfl,rfl,[],OwnL.nil _ _ _,rfl,Qu Gk,by simp[val],Qb _ _⟩
 case round =>
  obtain⟨i,cy,a1,rfl,rfl,o,ai,aO,u,hI,hB⟩:=hrel;replace aO:=Zd aO;replace hI:=Zd hI;by_cases hi':i<n
  ·obtain⟨b,of,rfl,y⟩:=(h.below hB).at_ hi'
   have hx:=h.lt.get i;obtain⟨p,hp⟩:=Gz (2^s);have V:p<=2147483648:=by rw[<- hp];exact QC Gk (show s<=31 by omega)
   have Y:p*l[i]?.getD 0<=2147483648*4294967295:=QA V Gk
   have U:IntKind.u64.wrap ((cy:Int)+IntKind.u64.wrap (((l[i]?.getD 0:Nat):Int)*2^s))=((cy+p*l[i]?.getD 0:Nat):Int):=by
    have e1:(((l[i]?.getD 0:Nat):Int)*2^s)=((p*l[i]?.getD 0:Nat):Int):=by rw[<- hp];push_cast;rw[Int.mul_comm]
    rw[hp]at u;rw[e1,Qg,Qg];omega
   rw[hp]at u;replace hp:=Zd hp;have fu:Hid (val (l.take (i+1))=val (l.take i)+pw i*l[i]?.getD 0):=Zac l i;obtain⟨x,f⟩:=Gz (l[i]?.getD 0);rw[f]at y hx Y U fu;replace f:=Zd f;obtain⟨t,ht⟩:=Gz (cy+p*x)
   have iE:t/4294967296<p:=by
    rw[Qd Gk,<- ht];have:p*x+p<=p*4294967296:=by rw[<- Nat.mul_succ];exact Qk _ Gk
    omega
   have a0:t<18446744073709551616:=Gk;rw[ht]at U;replace ht:=Zd ht;go_wp2_with (go_loud (at_builtin;refine Zx _ rfl (.tmp 23) (.tmp 26) 37 rfl w.heap.size 106 i0 _ 1 4 Tryz.underlying37 hi I O T rfl Gk _ i (o.map limb) rfl (by have:=aO.out;subst this;exact ai.1.alloc _) _ _ 1 1 _ rfl (Zb1 _ _ _) (by simp[Value.oneCell']) (by simp only[maxLen];omega) Gk Gb ?_;intro v1 w1 aE cN J));exact Ef
  obtain rfl:i=n:=Gk;have au:=Zd h.len;have eC:cy<4294967296:=QG u (show 2^s<=4294967296 from Qe (QC Gj (show s<=32 by omega)) Gj);have C:((cy:Int))%4294967296=(cy:Int):=Gk;clear h;go_wp2_with (go_loud (at_builtin;refine Zx _ rfl (.tmp 30) (.tmp 33) 37 rfl w.heap.size 106 i0 _ 1 4 Tryz.underlying37 hi I O T rfl Gk _ i (o.map limb) rfl (by have:=aO.out;subst this;exact ai.1.alloc _) _ _ 1 1 _ rfl (Zb1 _ _ _) (by simp[Value.oneCell']) (by simp only[maxLen];omega) Gk Gb ?_;intro v1 w1 aE cN J));exact Fw
def RShortR(w:World)(g n D:Nat)(l:List Nat)(k r:Nat)(wr:World):Prop:=
 ∃ o:List Nat,Blk wr g 106 (Z4 o)/\o.length=n/\Lt32 o/\r<D/\val (o.drop k)*D+r=val (l.drop k)/\Below w.heap.size w wr
theorem Zva(A:Option Addr)(n c d:Nat)(l:List Nat)(w:World)(hl:Lim w A n c l)(hd0:0<d)(hd:d<4294967296)(hn9:n<=1000000) :
    Calls Tryz.prog 140 #[.slice A n c,limb d] w (Zqx w (val l) d):=by
 obtain⟨i0,hi,a3,a4,a8⟩:=info_parts Zdn;have b6:=Zgs (P:=Tryz.prog) 37 106 Tryz.underlying37 hi a3 a4 a8 (n:Int) n rfl Gk;have b5:=hl.2.1;have a1:=hl.2.2.1;unfold maxLen at a1;have u:=Zd hl.len;have b4:((d:Int) == 0)=false:=by simp;omega
 have b2:(d:Int)≠0:=Gk
 go_in;go_wp2_with fail
 go_loopw [8,7] (λiv rv wr=>∃ k r:Nat,k<=n/\iv=.int .i64 ((k:Int)-1)/\rv=.int .u64 r/\RShortR w w.heap.size n d l k r wr) (λiv _ _=>(intOf iv+1).toNat)
 case atStart=>exact⟨n,0,Qa _,rfl,rfl,QP n 0,Qq _ _ _,by simp,Lt32.replicate _,hd0,by rw[Qp Gh,Qp (by rw[u.out];exact Qa _)];simp[val],(Qb _ _).alloc (Qa _) _⟩
 case round =>
  obtain⟨k,r,hk,rfl,rfl,o,h,f,T,hr,hI,hB⟩:=hrel;replace f:=Zd f;replace hI:=Zd hI;rcases k with _|k
  ·have O:=hI.out
   rw[QQ,QQ]at O;obtain⟨e1,e2⟩:=Zp5 (U:=val l) (V:=d) (q:=val o) (R:=r) Gk hr;have a0:=Lim.of_blk h T (by rw[f.out];unfold maxLen;omega);rw[f.out]at a0;have dq:r<4294967296:=Gk;have b7:((r:Int))%4294967296=(r:Int):=Gk;replace e1:=Zd e1;replace e2:=Zd e2;clear O;go_wp2_with fail;refine(Zec _ _ _ _ _ a0 Gk).mono ?_;rintro e w2 ⟨A2,n2,c2,l2,rfl,b0,rfl,Y⟩
   have C:∀ t,Lim (w2.alloc (.cells #[limb r] t)) (some ⟨w2.heap.size,0,none⟩) 1 1 [r]:=λt=>by
    exact IN
   replace C:=Zd C;go_wp2_with fail;refine(Zec _ _ _ _ _ (C.out _) Gk).mono ?_;rintro e w3 ⟨A3,n3,c3,l3,rfl,a6,I,b1⟩;have y:Below w2.heap.size w2 w3:=((Qb w2.heap.size w2).alloc (Qa _) _).trans (b1.mono Gh);replace I:=Zd I;go_wp2_with fail
   go_ret2
   refine⟨_,_,_,_,_,_,rfl,by rw[<- e1.out];exact b0.below y,?_,(Gs hB Y).trans (y.mono (Qe hB.size Y.size))⟩;have:=I.out;rw[show val [r]=r by simp[val]]at this;rw[<- e2.out,<- this];exact a6
  obtain⟨b,of,rfl,a7⟩:=(hl.below hB).at_ (k:=k) Gk;have hx:=hl.lt.get k;have a9:=h.cell k;rw[Zaw o k (by rw[f.out];omega)]at a9;have b3:=h.frozen k;have a5:r*4294967296+l[k]?.getD 0<18446744073709551616:=Gk;go_wp2_with fail;obtain⟨x,J⟩:=Gz (l[k]?.getD 0);rw[J]at hx a5 ⊢
  have e1:((r:Int)*4294967296+(x:Int))/(d:Int)%4294967296=(((r*4294967296+x)/d:Nat):Int):=by
   have:(r*4294967296+x)/d<4294967296:=by
    rw[Qd hd0];exact Ii
   rw[show ((r:Int)*4294967296+(x:Int))/(d:Int)=(((r*4294967296+x)/d:Nat):Int) by simp];generalize (r*4294967296+x)/d=z at *;omega
  have e2:((r:Int)*4294967296+(x:Int))%(d:Int)=(((r*4294967296+x)%d:Nat):Int):=Gh
  have hq:(r*4294967296+x)/d<4294967296:=by
   rw[Qd hd0];exact Ii
  have a2:(r*4294967296+x)%d<d:=Qr _ hd0;have he:(r*4294967296+x)/d*d+(r*4294967296+x)%d=r*4294967296+x:=by rw[Qs];exact QO _ _
  rw[e1,e2];generalize (r*4294967296+x)/d=q at *;generalize (r*4294967296+x)%d=r' at *;refine⟨⟨k,r',by omega,rfl,rfl,o.set k q,by rw[<- Zb6];exact h.set_ _ _,by rw[Qf];exact f.out,T.set _ hq,a2,?_,hB.setCell (p:=⟨w.heap.size,k,none⟩) (Qa _) _⟩,by simp[intOf] <;> omega⟩;exact Zoy (by rw[f.out];omega) (by rw[u.out];omega) hI.out (by rw[J];exact he)
theorem Zoz{l l0 v:List Nat}{i c s c':Nat}(hi:i<l.length)(hI:val (l.take i)+pw i*c=val (l0.take i)+val (v.take i))(he:s+4294967296*c'=c+l0[i]?.getD 0+v[i]?.getD 0) :
    val ((l.set i s).take (i+1))+pw (i+1)*c'=val (l0.take (i+1))+val (v.take (i+1)):=by
 rw[Zac,Zac v,Zac l0,List.take_set_of_le (Qa i),List.getElem?_set_self hi,Za6];simp only[Option.getD_some];have e:pw i*s+pw i*(4294967296*c')=pw i*c+pw i*l0[i]?.getD 0+pw i*v[i]?.getD 0:=by rw[<- Qv,<- Qv,<- Qv,he]
 have e2:4294967296*pw i*c'=pw i*(4294967296*c'):=by rw[Qs 4294967296,Qj]
 rw[e2];omega
theorem Zh3{q v:Nat}(h:0<q):(q-1)*v+v=q*v:=by
 obtain⟨k,rfl⟩:∃ k,q=k+1:=⟨q-1,by omega⟩;rw[Nat.add_sub_cancel,Nat.succ_mul]
theorem Zxi{q v1 v2 r u2 top:Nat}(h1:q*v1+r=top)(h2:r*4294967296+u2<q*v2):top*4294967296+u2<q*(v1*4294967296+v2):=by
 have e:q*(v1*4294967296+v2)=q*v1*4294967296+q*v2:=by rw[Qv,Qj]
 rw[e,<- h1,Nat.add_mul,Nat.add_assoc];exact Nat.add_lt_add_left h2 _
def WinF(w:World)(g off n:Nat)(w':World):Prop:=
 w.grownBy w' (some g)/\(∀ j,(j<off \/ off+n<=j)->w'.cell? ⟨g,j,none⟩=w.cell? ⟨g,j,none⟩)/\(∀ j,w'.frozen? ⟨g,j,none⟩=w.frozen? ⟨g,j,none⟩)
theorem WinF.refl(w:World)(g off n:Nat):WinF w g off n w:=⟨World.grownBy.refl w _,λ_ _=>rfl,λ_=>rfl⟩
theorem WinF.set_{w w':World}{g off n i:Nat}(h:WinF w g off n w')(hi:i<n)(u:Value):WinF w g off n (w'.setCell ⟨g,off+i,none⟩ u):=
 ⟨Zh6 h.1,λj hj=>(World.cell?_setCell_other _ _ _ _ Gf).trans (h.2.1 j hj),λj=>(World.frozen?_setCell _ _ _ _).trans (h.2.2 j)⟩
theorem WinF.drewN{w w':World}{g off n:Nat}(h:WinF w g off n w')(k:Nat):WinF w g off n (w'.drewN k):=⟨⟨h.1.os,h.1.tape,h.1.output,h.1.size,h.1.block⟩,h.2.1,h.2.2⟩
theorem Zu8{w w':World}{g k:Nat}{u l:List Nat}(h:MutL w g 0 u)(hk:k+l.length<=u.length)(hf:WinF w g k l.length w')(hl:MutL w' g k l):MutL w' g 0 (splice u k l):=λj hj=>by
 rw[Zep hk]at hj;rw[Qm];by_cases hin:k<=j/\j<k+l.length
 ·obtain⟨i,rfl⟩:∃ i,j=k+i:=⟨j-k,by omega⟩
  rw[Zov hk Gk];exact hl i Gk
 rw[Znp hk Gk];have:=h j hj;rw[Qm]at this;exact⟨(hf.2.1 j Gk).trans this.1,(hf.2.2 j).trans this.2⟩
def Z0w(w:World)(g off:Nat)(u v:List Nat)(e:Ending)(w':World):Prop:=
 ∃ l,e=.returned (limb (val u/val v))/\l.length=u.length/\Lt32 l/\val l=val u%val v/\MutL w' g off l/\WinF w g off u.length w'
def DSub(w:World)(g off n q:Nat)(u v:List Nat)(i cy b:Nat)(wr:World):Prop:=
 ∃ l,MutL wr g off l/\l.length=n+1/\Lt32 l/\(∀ j,i<=j->l[j]?.getD 0=u[j]?.getD 0)/\val (l.take i)+q*val (v.take i)=val (u.take i)+pw i*(cy+b)/\WinF w g off (n+1) wr
def DAdd(w:World)(g off n:Nat)(l0 v:List Nat)(i c:Nat)(wr:World):Prop:=
 ∃ l,MutL wr g off l/\l.length=n+1/\Lt32 l/\(∀ j,i<=j->l[j]?.getD 0=l0[j]?.getD 0)/\val (l.take i)+pw i*c=val (l0.take i)+val (v.take i)/\WinF w g off (n+1) wr
theorem Il{G:Prop}(h:G:=by
 go_wp2_with fail
 go_quiet (fail)
 go_wp2_with fail
 go_meet
 exact⟨q,rfl,fU,by omega,_,(by first|rfl|exact World.drewN_drewN _ _ _)⟩):G:=h
theorem CG{G:Prop}(h:G:=by
 go_wp2_with fail
 go_quiet (fail)
 go_wp2_with fail;exact gA.out _ _ ((by first|rfl|exact World.drewN_drewN _ _ _))):G:=h
theorem Eu{G:Prop}(h:G:=by
 have iB:0<q:=Gk
 have jA:r+v1<18446744073709551616:=by
  have h1:=ft.out;have h2:(q-1)*v1+v1=q*v1:=Zh3 iB;omega
 have eH:Hid ((q-1)*v1+(r+v1)=top):=by
  have h1:=ft.out;have h2:(q-1)*v1+v1=q*v1:=Zh3 iB;unfold Hid;omega
 have jC:IntKind.u64.wrap ((r:Int)+(v1:Int))=((r+v1:Nat):Int):=by rw[IntKind.wrap_u64];omega
 obtain⟨r1,fY⟩:=Gz (r+v1);rw[fY]at jC jA eH;replace fY:=Zd fY;have eP:((q:Int)-1)=((q-1:Nat):Int):=Gk;replace eP:=Zd eP;by_cases hbrk:4294967296<=r1/\q-1<4294967296
 ·obtain⟨k1,k2⟩:=hbrk
  have d7:decide (4294967296<=r1)=true:=by simpa using k1
  have d8:decide ((4294967296:Int)<=(r1:Int))=true:=by simp;omega
  have d9:decide ((q:Int)-1<4294967296)=true:=by simp;omega
  go_wp2_with fail
  go_quiet (fail)
  go_wp2_with fail
  go_meet
  exact⟨q-1,by rw[eP.out],by omega,k2,_,(by first|rfl|exact World.drewN_drewN _ _ _)⟩
 have gA:Hid (∀ (k:Nat) (wx:World),wx=w.drewN k->((∃ q_1 r_1:Nat,Value.int IntKind.u64 ((q:Int)-1)=Value.int IntKind.u64 (q_1:Int)/\Value.int IntKind.u64 (r1:Int)=Value.int IntKind.u64 (r_1:Int)/\Q<=q_1/\q_1<8589934592/\Hid (q_1*v1+r_1=top)/\∃ m,wx=w.drewN m)/\(intOf (Value.int IntKind.u64 ((q:Int)-1))).toNat<(intOf (Value.int IntKind.u64 (q:Int))).toNat)):=
   λk wx hk=>⟨⟨q-1,r1,by rw[eP.out],rfl,by omega,by omega,eH,k,hk⟩,by simp[intOf];omega⟩
 by_cases k1:4294967296<=r1
 ·have k2:¬ q-1<4294967296:=λh=>hbrk ⟨k1,h⟩
  have d7:decide (4294967296<=r1)=true:=by simpa using k1
  have d8:decide ((4294967296:Int)<=(r1:Int))=true:=by simp;omega
  have d9:decide ((q:Int)-1<4294967296)=false:=by simp;omega
  exact CG
 have d7:decide (4294967296<=r1)=false:=by simpa using k1
 have d8:decide ((4294967296:Int)<=(r1:Int))=false:=by simp;omega
 exact CG):G:=h
theorem Zx0(g off n c d:Nat)(bv ov:Nat)(u v:List Nat)(w:World)(hu:MutL w g off u)(a4:u.length=n+1)(hut:Lt32 u)(hnc:n+1<=c)(hcm:c<=maxLen)(hn9:n<=1000000)(hn0:2<=n)
    (hv:Lim w (some ⟨bv,ov,none⟩) n d v) (hne:bv≠g) (hlt:val u<4294967296*val v) (htop:2147483648<=v[n-1]?.getD 0) :
    Calls Tryz.prog 142 #[.slice (some ⟨g,off,none⟩) (n+1) c,.slice (some ⟨bv,ov,none⟩) n d] w (Z0w w g off u v):=by
 unfold maxLen at hcm;have h9:=hv.2.1;have f5:=hv.2.2.1;unfold maxLen at f5;have a3:=hv.len
 have hV:0<val v:=by
  rcases Qc (val v)with h0|h0;rw[h0]at hlt;omega;exact h0
 have e5:=top2_le a3 Gk;have c5:=top3_lt a4 Gk hut;have i1:=hv.cell (k:=n-1) Gk;have g5:=hv.cell (k:=n-2) Gk;have h6:=(hu n Gk).1;have h4:=(hu (n-1) Gk).1;have g7:=(hu (n-2) Gk).1;have g2:=hv.lt.get (n-1);have g9:=hv.lt.get (n-2);have g6:=hut.get n;have h7:=hut.get (n-1);have g0:=hut.get (n-2);have e7:=Zqh a3 Gk;have c4:=Zwi a4 Gk hut;generalize e9:v[n-1]?.getD 0=v1 at *;generalize c7:v[n-2]?.getD 0=v2 at *;generalize e6:u[n]?.getD 0=u0 at *;generalize c8:u[n-1]?.getD 0=u1 at *;generalize d0:u[n-2]?.getD 0=u2 at *;obtain⟨Q,hQ⟩:=Gz (val u/val v);have f8:Q<4294967296:=by rw[<- hQ,Qd hV];exact hlt
 obtain⟨top,a1⟩:=Gz (u0*4294967296+u1);rw[a1]at c5 c4;have c0:top<18446744073709551616:=Gk;have a0:Q<=top/v1:=by rw[<- hQ];exact Zpq Gk e7 c4
 have c6:top/v1<8589934592:=by rw[Qd Gk];omega
 have b1:top/v1*v1+top%v1=top:=by rw[Qs];exact QO _ _
 have a2:∀ q r,q*v1+r=top->r*4294967296+u2<q*v2->Q<q:=λq r h1 h2=>by
  rw[<- hQ];exact Zp7 e5 c5 (Zxi h1 h2)
 replace a2:=Zd a2;replace b1:=Zd b1;replace a1:=Zd a1;replace hQ:=Zd hQ;replace a4:=Zd a4;replace a3:=Zd a3;replace e9:=Zd e9;replace c7:=Zd c7;replace e6:=Zd e6;replace c8:=Zd c8;replace d0:=Zd d0;clear e5 c5 e7 c4;go_in;go_wp2_with fail
 go_quiet (fail)
 go_wp2_with fail
 go_quiet (fail)
 go_upto_block 0 with fail
 have ecast:((u0:Int)*4294967296+(u1:Int))=(top:Int):=by have:=a1.out;omega
 rw[ecast,show (top:Int)/(v1:Int)=((top/v1:Nat):Int) from rfl,show (top:Int)%(v1:Int)=((top%v1:Nat):Int) from rfl];replace ecast:=Zd ecast;generalize top/v1=q0 at *;generalize top%v1=r0 at *;have h5:WinF w g off (n+1) (w.drewN 0):=WinF.refl _ _ _ _
 go_cut [7,8] (λqv _ wx=>∃ q:Nat,qv=.int .u64 q/\Q<=q/\q<4294967296/\∃ m,wx=w.drewN m)
 case first =>
  go_wp2_with fail
  go_loopw [7,8] (λqv rv wr=>∃ q r:Nat,qv=.int .u64 q/\rv=.int .u64 r/\Q<=q/\q<8589934592/\Hid (q*v1+r=top)/\∃ m,wr=w.drewN m) (λqv _ _=>(intOf qv).toNat)
  case atStart=>exact⟨q0,r0,rfl,rfl,a0,c6,b1,_,World.drewN_drewN _ _ _⟩
  case round =>
   obtain⟨q,r,rfl,rfl,fU,b3,ft,m0,rfl⟩:=hrel;clear a0 c6 b1;have h8:r<18446744073709551616:=by have:=ft.out;omega
   by_cases hb32:4294967296<=q
   ·have d1:decide (4294967296<=q)=true:=by simpa using hb32
    have d2:decide ((4294967296:Int)<=(q:Int))=true:=by simp;omega
    exact Eu
   have d1:decide (4294967296<=q)=false:=by simpa using hb32
   have d2:decide ((4294967296:Int)<=(q:Int))=false:=by simp;omega
   by_cases hr32:r<4294967296
   ·have d3:decide (r<4294967296)=true:=by simpa using hr32
    have d4:decide ((r:Int)<(4294967296:Int))=true:=by simp;omega
    obtain⟨p2,b0⟩:=Gz (q*v2);have f9:p2<18446744073709551616:=by rw[<- b0];exact Ql (QA (show q<=4294967295 by omega) (show v2<=4294967295 by omega)) Gj
    have hw:IntKind.u64.wrap ((q:Int)*(v2:Int))=(p2:Int):=by
     rw[show (q:Int)*(v2:Int)=(p2:Int) by rw[<- b0];push_cast;rfl,Qg];omega
    replace b0:=Zd b0;by_cases ht5:r*4294967296+u2<p2
    ·have d5:decide (r*4294967296+u2<p2)=true:=Gv ht5
     have d6:decide ((r:Int)*4294967296+(u2:Int)<(p2:Int))=true:=Gv Gk;have i0:Q<q:=a2.out q r ft.out (by rw[b0.out];exact ht5);exact Eu
    have d5:decide (r*4294967296+u2<p2)=false:=Gu ht5;have d6:decide ((r:Int)*4294967296+(u2:Int)<(p2:Int))=false:=Gu Gk;exact Il
   have d3:decide (r<4294967296)=false:=by simpa using hr32
   have d4:decide ((r:Int)<(4294967296:Int))=false:=by simp;omega
   exact Il
 case rest =>
  obtain⟨q,rfl,fU,b3,m0,rfl⟩:=hcut;clear a0 c6 b1 a2;go_wp2_with fail;have f4:MutL (w.drewN m0) g off u:=hu;have b4:∀ (wr:World),WinF w g off (n+1) wr->Lim wr (some ⟨bv,ov,none⟩) n d v:=λwr h=>⟨hv.1,hv.2.1,hv.2.2.1,hv.2.2.2.1,λhn=>⟨bv,ov,rfl,λk hk=>(QD (a:=⟨bv,ov+k,none⟩) (h.1.block bv (Zp (hv.cell (k:=0) Gk)) (λe=>hne (by injection e)))).trans (hv.cell hk)⟩⟩;replace b4:=Zd b4
  go_loopw [11,10,9] (λiv cv bw wr=>∃ i cy b:Nat,i<=n+1/\iv=.int .i64 i/\cy<4294967296/\cv=.int .u64 cy/\b<=1/\bw=.int .i64 b/\DSub w g off n q u v i cy b wr/\(i=n+1->cy=0)) (λiv _ _ _=>n+1-(intOf iv).toNat)
  case atStart=>exact⟨0,0,0,by omega,rfl,by omega,rfl,by omega,rfl,⟨u,f4,a4.out,hut,λ_ _=>rfl,by simp[val],(WinF.refl _ _ _ _).drewN m0⟩,by omega⟩
  case round =>
   obtain⟨i,cy,b,f6,rfl,c1,rfl,f0,rfl,⟨l,hl,C,J,f,hI,hF⟩,c9⟩:=hrel;replace C:=Zd C;replace f:=Zd f;replace hI:=Zd hI;have hy:=hut.get i;rcases QJ i n with hi|hi|hi
   ·obtain⟨Y,c3⟩:=hl i (by rw[C.out];omega)
    rw[f.out i (Qa _)]at Y;have c2:=(b4.out _ hF).cell (k:=i) hi;have hx:=hv.lt.get i
    have o:∀ lo c' d' b':Nat,lo+4294967296*c'=cy+q*v[i]?.getD 0->d'+lo+b=u[i]?.getD 0+4294967296*b'->val ((l.set i d').take (i+1))+q*val (v.take (i+1))=val (u.take (i+1))+pw (i+1)*(c'+b'):=
     λlo c' d' b' h1 h2=>Zj8 (by rw[C.out];omega) hI.out h1 h2
    replace o:=Zd o;obtain⟨x,a6⟩:=Gz (v[i]?.getD 0);obtain⟨y,O⟩:=Gz (u[i]?.getD 0);rw[a6]at c2 hx o;rw[O]at Y hy o;replace a6:=Zd a6;replace O:=Zd O;have hw:=Zs6 c1 b3 hx
    have c0:cy+q*x<18446744073709551616:=by
     have h:q*x<=4294967295*4294967295:=QA Gk Gk;omega
    obtain⟨T,hT⟩:=Gz (cy+q*x);rw[hT]at hw c0 o
    have b7:bits BinOp.and IntKind.u64 (T:Int) 4294967295=((T%4294967296:Nat):Int):=by
     rw[show (4294967295:Int)=((4294967295:Nat):Int) from rfl,u64_and_nat _ _ c0 Gk,show 4294967295=2^32-1 by rfl,Qt]
    have e0:T/4294967296<4294967296:=Gk;replace hT:=Zd hT;have f3:T%4294967296<4294967296:=Qr _ Gj;obtain⟨lo,a8⟩:=Gz (T%4294967296);rw[a8]at b7 f3;replace a8:=Zd a8;have hh:Hid (lo+4294967296*(T/4294967296)=T):=by unfold Hid;rw[<- a8.out];exact Nat.mod_add_div _ _
    by_cases hneg:(y:Int)-lo-b<0
    ·have d1:decide ((y:Int)-lo-b<0)=true:=Gv hneg
     go_wp2_with fail;obtain⟨d',a5⟩:∃ d':Nat,(y:Int)-lo-b+4294967296=(d':Int):=⟨((y:Int)-lo-b+4294967296).toNat,by omega⟩;rw[a5];have V:d'<4294967296:=Gk;have hfin:=o.out lo (T/4294967296) d' 1 hh.out Gk;refine⟨⟨i+1,(T/4294967296),1,by omega,by go_num,e0,rfl,by omega,rfl,⟨l.set i d',hl.set_ (by rw[C.out];omega) d',by rw[Qf];exact C.out,J.set i V,λj hj=>by rw[getD_set_ne _ Gk];exact f.out j Gk,hfin,hF.set_ Gk _⟩,by omega⟩,by simp[intOf] <;> omega⟩
    have d1:decide ((y:Int)-lo-b<0)=false:=Gu hneg;go_wp2_with fail;obtain⟨d',a5⟩:∃ d':Nat,(y:Int)-lo-b=(d':Int):=⟨((y:Int)-lo-b).toNat,by omega⟩;rw[a5];have V:d'<4294967296:=Gk;have hfin:=o.out lo (T/4294967296) d' 0 hh.out Gk;refine⟨⟨i+1,(T/4294967296),0,by omega,by go_num,e0,rfl,by omega,rfl,⟨l.set i d',hl.set_ (by rw[C.out];omega) d',by rw[Qf];exact C.out,J.set i V,λj hj=>by rw[getD_set_ne _ Gk];exact f.out j Gk,hfin,hF.set_ Gk _⟩,by omega⟩,by simp[intOf] <;> omega⟩
   ·subst hi
    obtain⟨Y,c3⟩:=hl i (by rw[C.out];omega);rw[f.out i (Qa _)]at Y
    have o:∀ d' b':Nat,d'+cy+b=u[i]?.getD 0+4294967296*b'->val ((l.set i d').take (i+1))+q*val (v.take (i+1))=val (u.take (i+1))+pw (i+1)*(0+b'):=
     λd' b' h2=>Zj8 (by rw[C.out];omega) hI.out (by rw[getD_none (by rw[a3.out];exact Qa _),Qn,Qn,QH]) h2
    replace o:=Zd o;obtain⟨y,O⟩:=Gz (u[i]?.getD 0);rw[O]at Y hy o;replace O:=Zd O
    have b7:bits BinOp.and IntKind.u64 (cy:Int) 4294967295=(cy:Int):=by
     rw[show (4294967295:Int)=((4294967295:Nat):Int) from rfl,u64_and_nat _ _ Gk Gk,show 4294967295=2^32-1 by rfl,Qt,QM c1]
    have g8:(cy:Int)/4294967296=0:=Gk;by_cases hneg:(y:Int)-cy-b<0
    ·have d1:decide ((y:Int)-cy-b<0)=true:=Gv hneg
     go_wp2_with fail;obtain⟨d',a5⟩:∃ d':Nat,(y:Int)-cy-b+4294967296=(d':Int):=⟨((y:Int)-cy-b+4294967296).toNat,by omega⟩;rw[a5];have V:d'<4294967296:=Gk;have hfin:=o.out d' 1  Gk;refine⟨⟨i+1,0,1,by omega,by go_num,(by omega),by go_num,by omega,rfl,⟨l.set i d',hl.set_ (by rw[C.out];omega) d',by rw[Qf];exact C.out,J.set i V,λj hj=>by rw[getD_set_ne _ Gk];exact f.out j Gk,hfin,hF.set_ Gk _⟩,by omega⟩,by simp[intOf] <;> omega⟩
    have d1:decide ((y:Int)-cy-b<0)=false:=Gu hneg;go_wp2_with fail;obtain⟨d',a5⟩:∃ d':Nat,(y:Int)-cy-b=(d':Int):=⟨((y:Int)-cy-b).toNat,by omega⟩;rw[a5];have V:d'<4294967296:=Gk;have hfin:=o.out d' 0  Gk;refine⟨⟨i+1,0,0,by omega,by go_num,(by omega),by go_num,by omega,rfl,⟨l.set i d',hl.set_ (by rw[C.out];omega) d',by rw[Qf];exact C.out,J.set i V,λj hj=>by rw[getD_set_ne _ Gk];exact f.out j Gk,hfin,hF.set_ Gk _⟩,by omega⟩,by simp[intOf] <;> omega⟩
   obtain rfl:i=n+1:=Gk;obtain rfl:cy=0:=c9 rfl
   have a7:Hid (val l+q*val v=val u+pw (n+1)*b):=by
    have h1:=hI.out;rw[Zad (by rw[C.out];exact Qa _),Zad (by rw[a3.out];omega),Zad (by rw[a4.out];exact Qa _),Qm]at h1;exact h1
   clear hI f c9;have b9:Q<=q:=fU;go_wp2_with fail
   go_loopw [9,7] (λbw qw wr=>∃ (q b:Nat) (l:List Nat),bw=.int .i64 b/\qw=.int .u64 q/\b<=1/\Q<=q/\q<4294967296/\MutL wr g off l/\l.length=n+1/\Lt32 l/\Hid (val l+q*val v=val u+pw (n+1)*b)/\WinF w g off (n+1) wr) (λ_ qw _=>(intOf qw).toNat)
   case atStart=>exact⟨q,b,l,rfl,rfl,f0,b9,b3,hl,C.out,J,a7,hF⟩
   case round =>
    clear a7 hl C J hF;obtain⟨q,b,l,rfl,rfl,f0,b9,b3,hl,C,J,a7,hF⟩:=hrel;replace C:=Zd C;rcases Qc b with rfl|g4
    ·obtain⟨b6,b8⟩:=Zpc (U:=val u) (q:=q) (W:=val l) hV (by have:=a7.out;rw[Qn]at this;exact this) (by rw[hQ.out];exact b9)
     have hP:Hid (Z0w w g off u v (.returned (limb q)) wr):=⟨l,by rw[<- b6],by rw[C.out,a4.out],J,b8,hl,by rw[a4.out];exact hF⟩;have g1:((q:Int))%4294967296=(q:Int):=Gk;clear b6 b8 a7;go_wp2_with fail;go_ret;exact hP.out
    obtain rfl:b=1:=Gk
    have f7:Q<q:=by
     have:=Zns (q:=q) (W:=val l) (M:=pw (n+1)) hV (by have:=a7.out;rw[Qz]at this;exact this) (by have:=Zgp J;rw[C.out]at this;exact this);rw[hQ.out]at this;exact this
    go_wp2_with fail
    go_loopw [13,10] (λiv cv wr=>∃ i cy:Nat,i<=n+1/\iv=.int .i64 i/\cy<=1/\cv=.int .u64 cy/\DAdd w g off n l v i cy wr) (λiv _ _=>n+1-(intOf iv).toNat)
    case atStart=>exact⟨0,0,by omega,rfl,by omega,rfl,l,hl,C.out,J,λ_ _=>rfl,by simp[val],hF⟩
    case round =>
     obtain⟨i,cy,f6,rfl,c1,rfl,l2,a9,I,b2,f,hI,b5⟩:=hrel;replace I:=Zd I;replace f:=Zd f;replace hI:=Zd hI;have e8:=J.get i;rcases QJ i n with hi|hi|hi
     ·obtain⟨Y,c3⟩:=a9 i (by rw[I.out];omega)
      rw[f.out i (Qa _)]at Y;have c2:=(b4.out _ b5).cell (k:=i) hi;have hx:=hv.lt.get i
      have o:∀ s c':Nat,s+4294967296*c'=cy+l[i]?.getD 0+v[i]?.getD 0->val ((l2.set i s).take (i+1))+pw (i+1)*c'=val (l.take (i+1))+val (v.take (i+1)):=
       λs c' h=>Zoz (by rw[I.out];omega) hI.out h
      replace o:=Zd o;obtain⟨x,a6⟩:=Gz (v[i]?.getD 0);obtain⟨y,O⟩:=Gz (l[i]?.getD 0);rw[a6]at c2 hx o;rw[O]at Y e8 o;replace a6:=Zd a6;replace O:=Zd O;go_wp2_with fail;have e1:((cy:Int)+y+x)%4294967296=(((cy+y+x)%4294967296:Nat):Int):=Gk;have e2:((cy:Int)+y+x)/4294967296=(((cy+y+x)/4294967296:Nat):Int):=Gk;rw[e1,e2];refine⟨⟨i+1,(cy+y+x)/4294967296,by omega,by go_num,by omega,rfl,l2.set i ((cy+y+x)%4294967296),a9.set_ (by rw[I.out];omega) _,by rw[Qf];exact I.out,b2.set i Gk,λj hj=>by rw[getD_set_ne _ Gk];exact f.out j Gk,o.out _ _ Gk,b5.set_ Gk _⟩,by simp[intOf] <;> omega⟩
     ·subst hi
      obtain⟨Y,c3⟩:=a9 i (by rw[I.out];omega);rw[f.out i (Qa _)]at Y
      have o:∀ s c':Nat,s+4294967296*c'=cy+l[i]?.getD 0->val ((l2.set i s).take (i+1))+pw (i+1)*c'=val (l.take (i+1))+val (v.take (i+1)):=
       λs c' h=>Zoz (by rw[I.out];omega) hI.out (by rw[getD_none (l:=v) (by rw[a3.out];exact Qa _),QH];exact h)
      replace o:=Zd o;obtain⟨y,O⟩:=Gz (l[i]?.getD 0);rw[O]at Y e8 o;replace O:=Zd O;go_wp2_with fail;have e1:((cy:Int)+y)%4294967296=(((cy+y)%4294967296:Nat):Int):=Gk;have e2:((cy:Int)+y)/4294967296=(((cy+y)/4294967296:Nat):Int):=Gk;rw[e1,e2];refine⟨⟨i+1,(cy+y)/4294967296,by omega,by go_num,by omega,rfl,l2.set i ((cy+y)%4294967296),a9.set_ (by rw[I.out];omega) _,by rw[Qf];exact I.out,b2.set i Gk,λj hj=>by rw[getD_set_ne _ Gk];exact f.out j Gk,o.out _ _ Gk,b5.set_ Gk _⟩,by simp[intOf] <;> omega⟩
     obtain rfl:i=n+1:=Gk
     have hfin:Hid (val l2+(q-1)*val v=val u+pw (n+1)*(1-cy)):=by
      have h1:=hI.out;rw[Zad (by rw[I.out];exact Qa _),Zad (by rw[C.out];exact Qa _),Zad (by rw[a3.out];omega)]at h1;have h2:=a7.out;have h3:=Zh3 (v:=val v) (show 0<q by omega);rw[Qz]at h2;unfold Hid;rcases Qc cy with rfl|h0
      ·rw[Qn]at h1
       rw[Nat.sub_zero,Qz];omega
      obtain rfl:cy=1:=Gk;rw[Qz]at h1;rw[Nat.sub_self,Qn];omega
     clear hI f;have e3:((q:Int)-1)=((q-1:Nat):Int):=Gk;have e4:((1:Int)-cy)=((1-cy:Nat):Int):=Gk;replace e3:=Zd e3;replace e4:=Zd e4;go_wp2_with fail
     go_roundw
     case rel=>exact⟨q-1,1-cy,l2,by rw[<- e4.out],by rw[<- e3.out],by omega,by omega,by omega,a9,I.out,b2,hfin,b5⟩
     case measure=>simp[intOf] <;> omega
theorem DivR.step2{w wr w5:World}{g q:Nat}{A:Option Addr}{c m nq:Nat}{vl lu lq:List Nat}{a b s k:Nat}{l:List Nat}(hD:DivI (2^s*a) (2^s*b) m lu lq (k+1))(hq:lq.length=nq)(hM:MutL wr g 0 lu)(hB:Blk wr q 106 (Z4 lq))
    (hL:Lim wr A m c vl) (hw:Below w.heap.size w wr) (hv:val vl=2^s*b) (hlen:l.length=m+1) (hlt:Lt32 l) (hl:val l=val ((lu.drop k).take (m+1))%val vl) (hQ:val ((lu.drop k).take (m+1))/val vl<4294967296)
    (hl5:MutL w5 g k l) (hF:WinF wr g k (m+1) w5) (hgq:g≠q) (hA:∀ b o,A=some ⟨b,o,none⟩->b≠g/\b≠q) (hg:w.heap.size<=g) (hqs:w.heap.size<=q) :
    DivR w g q A c m nq vl a b s k (w5.setCell ⟨q,k,none⟩ (limb (val ((lu.drop k).take (m+1))/val vl))):=by
 have h:2^s*b<=pw m:=by rw[<- hv];exact Nat.le_of_lt hL.lt_pw
 have f:k+l.length<=lu.length:=by have:=hD.2.2.1;have:=hD.2.2.2.1;omega
 have u:Blk w5 q 106 (Z4 lq):=(hF.1.block q hB.lt (λe=>hgq (by injection e with e;exact e.symm))).trans hB
 refine⟨splice lu k l,lq.set k (val ((lu.drop k).take (m+1))/val vl),hD.step h hlen hlt hQ (by rw[hv]) (by rw[<- hv];exact hl),by rw[Qf];exact hq,
  (Zu8 hM f (by rw[hlen];exact hF) hl5).far hgq,?_,Lim.far ?_ (λb o e=>(hA b o e).2),?_⟩
 rw[<- Zb6];exact u.set_ _ _
 ·exact⟨hL.1,hL.2.1,hL.2.2.1,hL.2.2.2.1,λhn=>by
    obtain⟨b,o,e,hc⟩:=hL.2.2.2.2 hn;exact⟨b,o,e,λj hj=>(QD (a:=⟨b,o+j,none⟩) (hF.1.block b (Zp (hc 0 hn)) (λe2=>(hA b o e).1 (by injection e2)))).trans (hc j hj)⟩⟩
 exact(hw.grown hF.1 hw.size (λj hj=>by injection hj with hj;omega)).setCell (p:=⟨q,k,none⟩) hqs _
def ShiftI(x:Nat)(sv:Value):Prop:=∃ s:Nat,sv=.int .u64 (s:Int)/\s<=31/\2^s*x<4294967296
def ShrR(w0:World)(s:Nat)(rest:List Nat)(i:Nat)(v:Value)(wr:World):Prop:=
 ∃ o,OwnL 106 wr w0.heap.size v o/\o.length=i/\val o+pw i*(val (rest.drop i)/2^s)=val rest/2^s/\Below w0.heap.size w0 wr
theorem Zy3(A B:Option Addr)(n c m d:Nat)(a b:Nat)(w:World)(ha:Lim w A n c (digits a))(hb:Lim w B m d (digits b))(hn:n<=100000)(h:a<b) :
    Calls Tryz.prog 98 #[.slice A n c,.slice B m d] w (Zqx w a b):=by
 have C:Hid (Zcm (digits a) (digits b)<0):=by
  have:=(Zhu (va:=a) (vb:=b));unfold Hid;omega
 obtain⟨cv,f⟩:∃ x:Int,Zcm (digits a) (digits b)=x:=⟨_,rfl⟩;have J:cv<0:=by rw[<- f];exact C.out
 have HC:=Zd f;clear C f;go_in;go_wp2_with fail;refine(Zck _ _ _ _ _ _ _ _ _ ha hb).mono ?_;rintro e w1 ⟨y,u⟩;rw[HC.out]at y;subst y;go_wp2_with fail;refine(Zec _ _ _ _ _ (ha.below u) Gk).mono ?_;rintro e w2 ⟨A2,n2,c2,l2,rfl,hL,o,I⟩;replace o:=Zd o;go_wp2_with fail
 go_ret2
 have hB:Below w.heap.size w w2:=Gs u I;exact⟨_,_,_,_,_,_,rfl,by rw[Nat.div_eq_of_lt h,Zav];exact Lim.nil _ _ _ (Qo _),by rw[QM h];have:=o.out;rw[Zk]at this;rw[<- this];exact hL,hB⟩
theorem Z0g(A B:Option Addr)(n c m d:Nat)(a b:Nat)(w:World)(ha:Lim w A n c (digits a))(hb:Lim w B m d (digits b))(hn:n<=100000)(h:b<=a)(hm:m=1) :
    Calls Tryz.prog 98 #[.slice A n c,.slice B m d] w (Zqx w a b):=by
 subst hm;have a5:=ha.2.1;have Y:=ha.2.2.1;have a6:=hb.2.1;have a1:=hb.2.2.1;unfold maxLen at Y a1;obtain⟨cv,u⟩:∃ x:Int,Zcm (digits a) (digits b)=x:=⟨_,rfl⟩;have C:¬ cv<0:=by rw[<- u];have:=(Zhu (va:=a) (vb:=b));omega
 have a0:decide (cv<0)=false:=by simpa using C
 have HC:=Zd u;clear u C;obtain⟨I,a3,J⟩:=Zmr hb.len;obtain⟨g,o,rfl,f⟩:=hb.at_ (k:=0) Gk;rw[I]at f;simp at f;replace I:=Zd I;have a2:=Zd (Zk a);go_in;go_wp2_with fail;refine(Zck _ _ _ _ _ _ _ _ _ ha hb).mono ?_;rintro e w1 ⟨T,y⟩;rw[HC.out]at T;subst T;have V:=Zc y f;go_wp2_with fail;refine(Zva _ _ _ b _ _ (ha.below y) a3 J Gk).mono ?_;rintro e w2 ⟨A2,n2,c2,A3,n3,c3,rfl,U,O,a4⟩;rw[a2.out]at U O;go_wp2_with fail
 go_ret2
 exact⟨_,_,_,_,_,_,rfl,U,O,Gs y a4⟩
theorem Ec{G:Prop}(h:G:=by
 go_wp2_with (at_builtin;refine Zx _ rfl (.tmp 101) (.tmp 106) 37 rfl wo.heap.size 106 i0 _ 1 4 Tryz.underlying37 hi dW iJ iK rfl Gk _ i (o.map limb) rfl (by have:=aO.out;subst this;exact ai.1.alloc _) _ _ 1 1 _ rfl (Zb1 _ _ _) (by simp[Value.oneCell']) (by simp only[maxLen];omega) Gk Gb ?_;intro v1 w1 aE cN jm);have ae:=(hB.alloc hB.size _).grown cN Gb ai.row_ge
 go_roundw
 case rel=>((repeat apply Exists.intro);exact⟨⟨i+1,by omega,by go_num,jw.out _ _ _ (by first|exact gD.out _ fO.out|exact dv.out _ fO.out) aE ae⟩,rfl⟩)
 case measure=>simp[intOf];omega):G:=h
theorem Zxy(A B:Option Addr)(n c m d:Nat)(a b:Nat)(w:World)(ha:Lim w A n c (digits a))(hb:Lim w B m d (digits b))(hn:n<=100000)(h:b<=a)(hm:2<=m) :
    Calls Tryz.prog 98 #[.slice A n c,.slice B m d] w (Zqx w a b):=by
 have m1:=ha.2.1;have j8:=ha.2.2.1;have l5:=hb.2.1;have k0:=hb.2.2.1;unfold maxLen at j8 k0;have iz:m<=n:=by have:=Z6 h;rw[ha.len,hb.len]at this;exact this
 obtain⟨i0,hi,dW,iJ,iK⟩:=info_parts Zdn;have m0:=Zgs (P:=Tryz.prog) 37 106 Tryz.underlying37 hi dW iJ iK ((n:Int)+1-m) (n+1-m) Gk Gk;obtain⟨cv,a5⟩:∃ x:Int,Zcm (digits a) (digits b)=x:=⟨_,rfl⟩;have b1:¬ cv<0:=by rw[<- a5];have:=(Zhu (va:=a) (vb:=b));omega
 have i8:decide (cv<0)=false:=by simpa using b1
 have HC:=Zd a5;clear a5 b1;have m4:((m:Int) == 1)=false:=by simp;omega
 obtain⟨g,o,rfl,J⟩:=hb.at_ (k:=m-1) Gk;have f:=hb.len;have b9:=Zfx (v:=b) Gk;have e5:=Zqh f Gk;have b0:=hb.lt.get (m-1);have h6:=Zcw b;rw[f]at b9 h6;have a3:=Zih f Gk hb.lt;rw[Zk]at e5 a3;obtain⟨x,hx⟩:=Gz ((digits b)[m-1]?.getD 0);rw[hx]at J b9 e5 b0 a3;replace f:=Zd f;replace hx:=Zd hx;have cF:=Zd (Zk a);have cG:=Zd (Zk b);go_in;go_wp2_with fail;refine(Zck _ _ _ _ _ _ _ _ _ ha hb).mono ?_;rintro e w1 ⟨f7,T⟩;rw[HC.out]at f7;subst f7;have a8:=Zc T J;have j1:0<x:=Gk;go_wp2_with fail
 go_loop [7] (λsv=>ShiftI x sv) (λsv=>31-(intOf sv).toNat)
 case atStart=>exact⟨0,rfl,by omega,by simpa using b0⟩
 case round =>
  obtain⟨s,rfl,k9,i4⟩:=hrel
  have j9:IntKind.u32.wrap ((x:Int)*2^s)=((2^s*x:Nat):Int):=by
   have e1:((x:Int)*2^s)=((2^s*x:Nat):Int):=by push_cast;rw[Int.mul_comm]
   rw[e1,IntKind.wrap_u32];omega
  obtain⟨y,hy⟩:=Gz (2^s*x);rw[hy]at j9 i4;by_cases hlt2:y<2147483648
  ·have k8:s<31:=by
     rcases QI s 31 with h'|h';exact h';exfalso;obtain rfl:s=31:=Gk;have:2^31*1<=2^31*x:=Qk _ j1;rw[hy]at this;simp at this;omega
   have j2:2^(s+1)*x<4294967296:=by rw[Nat.pow_succ,Qs (2^s),Qj,hy];omega
   replace hy:=Zd hy;have d1:decide (y<2147483648)=true:=Gv hlt2;have d2:decide ((y:Int)<2147483648)=true:=Gv Gk;clear hlt2;go_wp2_with fail;exact⟨⟨s+1,by go_num,by omega,j2⟩,by simp[intOf];omega⟩
  replace hy:=Zd hy;have d1:decide (y<2147483648)=false:=Gu hlt2;have d2:decide ((y:Int)<2147483648)=false:=Gu Gk;clear hlt2;go_wp2_with fail;have l4:2147483648<=y:=by have:=of_decide_eq_false d1;omega
  clear d1 d2;have hs:s<32:=Gk
  have hxs:x+1<=2^(32-s):=by
   have h1:2^s*x<2^s*2^(32-s):=by
    rw[<- Nat.pow_add,show s+(32-s)=32 by omega,hy.out];exact i4
   exact Nat.lt_of_mul_lt_mul_left h1
  have i7:=ha.below T;have f5:=hb.below T;refine(Zpu _ m d s (digits b) _ f5 hs Gk).mono ?_;rintro e w3 ⟨v3,o3,rfl,c9,a0,a4,a6⟩;obtain⟨g3,c3,V,l9,l1,g7,b5,g0⟩:=c9.mut Gk;rw[a0]at V g7;subst V;have j0:Lim w3 (some ⟨g3,0,none⟩) (m+1) c3 o3:=g0.lim a0 g7 b5 c9.2;unfold maxLen at b5;replace a0:=Zd a0;replace a4:=Zd a4;clear c9 g0;go_wp2_with fail;refine(Zpu A n c s (digits a) _ (i7.below a6) hs Gk).mono ?_;rintro e w4 ⟨v4,o4,rfl,dP,cO,cP,e8⟩;obtain⟨g4,c4,b8,m2,l0,g2,g1,eR⟩:=dP.mut Gk;rw[cO]at b8 g2;subst b8;unfold maxLen at g1;replace cO:=Zd cO;replace cP:=Zd cP;go_wp2_with fail;replace cG:=cG.out;replace cF:=cF.out;rw[cG]at a4;rw[cF]at cP;have b3:=a0.out;have V:=a4.out
  have g5:2^s*(x+1)<=4294967296:=by
   exact Ig
  have b6:2^s*b<pw m:=by
   have h1:2^s*b<2^s*((x+1)*pw (m-1)):=Qw a3 (Qu Gk);have h2:2^s*((x+1)*pw (m-1))<=4294967296*pw (m-1):=by rw[<- Qj];exact Nat.mul_le_mul_right _ g5
   rw[<- Za6,show m-1+1=m by omega]at h2;omega
  have a2:val (o3.take m)=2^s*b:=by
   exact Iu
  have bz:=(j0.take (k:=m) Gk).below e8
  have a7:y*pw (m-1)<=2^s*b:=by
   have h1:2^s*(x*pw (m-1))<=2^s*b:=Qk _ e5;rw[<- Qj,hy.out]at h1;exact h1
  have h8:2147483648<=(o3.take m)[m-1]?.getD 0:=by
   have h1:=Zih (v:=o3.take m) (n:=m) (by rw[QN,b3];omega) Gk bz.lt;rw[a2]at h1;have h2:=Nat.lt_of_mul_lt_mul_right (Ql a7 h1);omega
  have eK:Below w.heap.size w w4:=(Gs T a6).trans (e8.mono (Qe T.size a6.size))
  have a9:DivR w g4 w4.heap.size (some ⟨g3,0,none⟩) c3 m (n+1-m) (o3.take m) a b s (n+1-m) (w4.alloc (.cells (Z4 (QP (n+1-m) 0)) 106)):=by
   exact EE
  have k2:∀ b o,some (⟨g3,0,none⟩:Addr)=some ⟨b,o,none⟩->b≠g4/\b≠w4.heap.size:=λb o e=>by
   injection e with e
   injection e with e1 e2
   have:=e8.size;omega
  have j6:w.heap.size<=g4:=by have:=T.size;have:=a6.size;omega
  have e9:g4≠w4.heap.size:=Gk;have c2:g3≠g4:=Gk;clear eR dP cO cP a4 a0 cF cG J a8 V b3;replace a2:=Zd a2;replace a7:=Zd a7
  go_loopw [11] (λjv wr=>∃ k:Nat,k<=n+1-m/\jv=.int .i64 ((k:Int)-1)/\DivR w g4 w4.heap.size (some ⟨g3,0,none⟩) c3 m (n+1-m) (o3.take m) a b s k wr) (λjv _=>(intOf jv+1).toNat)
  case atStart=>exact⟨n+1-m,Qa _,rfl,a9⟩
  case round =>
   obtain⟨k,hk,rfl,lu,lq,hD,hq,hM,bS,i2,e0⟩:=hrel;replace hq:=Zd hq;rcases k with _|k
   ·obtain⟨e1,e2⟩:=hD.stop
    have j3:0<b:=by
     rcases Qc b with h0|h0
     ·subst h0
      rw[Zav]at f;have:=f.out;simp at this;omega
     exact h0
    have c1:Lim wr (some ⟨g4,0,none⟩) (n+1) c4 lu:=hM.lim (by have:=hD.2.2.1;have:=hq.out;omega) g2 (by unfold maxLen;omega) hD.1
    have k6:Lim wr (some ⟨w4.heap.size,0,none⟩) (n+1-m) (n+1-m) lq:=by
     exact IG
    have h4:val (lu.take m)=2^s*(a%b):=by
     have h1:=Zae lu m (by rw[c1.len];omega);have h2:2^s*(a%b)<2^s*b:=Qw (Qr _ j3) (Qu Gk);rcases Qc (val (lu.drop m))with h0|h0;rw[h0]at h1;omega;have:=Qk (pw m) h0;omega
    have a1:=c1.take (k:=m) Gk
    have i3:Hid (val (lu.take m)/2^s=a%b):=by
     unfold Hid;rw[h4,Nat.mul_div_cancel_left _ (Qu Gk)]
    obtain⟨rs,h9⟩:=Gz (lu.take m);rw[h9]at a1 i3;have c5:=Zd a1.len;replace e1:=Zd e1;clear hD e2 h4 h9 hM bS c1 a7 a2 h8 b6;go_wp2_with fail;obtain⟨wo,rfl⟩:=Gy wr
    go_loopw [14,13] (λiv ov wr=>∃ i:Nat,i<=m/\iv=.int .i64 i/\ShrR wo s rs i ov wr) (λiv _ _=>m-(intOf iv).toNat)
    case atStart=>exact⟨0,Qo _,rfl,[],OwnL.nil _ _ _,rfl,by simp[val,Zds],Qb _ _⟩
    case round =>
     obtain⟨i,l6,rfl,o,ai,aO,hI,hB⟩:=hrel;replace aO:=Zd aO;replace hI:=Zd hI;have b7:=a1.below hB;by_cases him:i<m
     ·have I:=Z0e (r:=rs) (i:=i) (s:=s) Gk (by rw[c5.out];exact him) a1.lt
      have g6:=b7.cell him;rw[Qm]at g6;have j7:=a1.lt.get i;have k5:=a1.lt.get (i+1);obtain⟨p,hp⟩:=Gz (2^s);have m5:0<p:=by rw[<- hp];exact Qu Gk
      have l2:(0:Int)<(p:Int):=Gk;have d0:((2:Int)^s)=(p:Int):=by rw[<- hp];push_cast;rfl
      rw[hp]at I;obtain⟨y0,e3⟩:=Gz (rs[i]?.getD 0);obtain⟨y1,C⟩:=Gz (rs[i+1]?.getD 0);rw[e3]at g6 j7 I;rw[C]at k5 I;replace I:=Zd I;replace e3:=Zd e3;obtain⟨X,hX⟩:=Gz (y0+4294967296*y1);rw[hX]at I;have m3:X<18446744073709551616:=Gk
      have jw:Hid (∀ (v1:Value) (w1:World) (Z:Int),Z=((X/p%4294967296:Nat):Int)->w1.ownsRow wo.heap.size 106 1 v1 (i+1) (o.map limb ++ [.int .u32 Z])->Below wo.heap.size wo w1->ShrR wo s rs (i+1) v1 w1):=λv1 w1 Z hZ h1 h2=>by
       refine⟨o ++ [X/p%4294967296],OwnL.snoc aO.out.symm h1 ai.2 hZ (Qr _ Gj),by rw[List.length_append,aO.out];rfl,?_,h2⟩;rw[Zeq,aO.out,hp];have h3:=hI.out;rw[hp,I.out]at h3;rw[<- h3,Za6,Qv,Qs 4294967296 (pw i),Qj];omega
      have dv:∀ Y:Int,Y=(X:Int)->Y/2^s%4294967296=((X/p%4294967296:Nat):Int):=λY hY=>by
       rw[hY,d0,show (X:Int)/(p:Int)=((X/p:Nat):Int) from rfl];generalize X/p=z at *;omega
      have gD:∀ Y:Int,Y=(X:Int)->IntKind.u32.wrap (Y/2^s)=((X/p%4294967296:Nat):Int):=λY hY=>by
       rw[IntKind.wrap_u32];exact dv Y hY
      replace dv:=Zd dv;replace gD:=Zd gD;replace d0:=Zd d0;replace hp:=Zd hp;by_cases him2:i+1<m
      ·have f4:=b7.cell him2
       rw[Qm]at f4;have fO:Hid ((y0:Int)+(y1:Int)*4294967296=(X:Int)):=by unfold Hid;omega
       replace hX:=Zd hX;rw[C]at f4;replace C:=Zd C;exact Ec
      have fO:Hid ((y0:Int)=(X:Int)):=by
        have:y1=0:=by rw[<- C];exact getD_none (by rw[c5.out];omega)
        unfold Hid;omega
      replace hX:=Zd hX;replace C:=Zd C;have d9:decide (i+1<m)=false:=Gu him2;have d8:decide ((i:Int)+1<(m:Int))=false:=Gu Gk;exact Ec
     obtain rfl:i=m:=Gk
     have k1:Hid (val o=a%b):=by
      have h1:=hI.out;rw[Qp (by rw[c5.out];exact Qa _)]at h1;simp only[val,Nat.zero_div,Qn,QH]at h1;unfold Hid;rw[h1];exact i3.out
     obtain⟨A6,c6,f9,f0⟩:=ai.lim;rw[aO.out]at f9 f0;subst f9;have i1:=k6.below hB;go_wp2_with fail;refine(Zec _ _ _ _ _ i1 Gk).mono ?_;rintro e w7 ⟨A7,n7,c7,l7,rfl,g8,rfl,e7⟩;go_wp2_with fail;refine(Zec _ _ _ _ _ (f0.below e7) Gk).mono ?_;rintro e w8 ⟨A8,n8,c8,l8,rfl,h5,rfl,f8⟩;rw[e1.out]at g8;rw[k1.out]at h5;go_wp2_with fail
     go_ret2
     have e6:Below w.heap.size w wr:=Gs e0 hB;exact⟨_,_,_,_,_,_,rfl,g8.below f8,h5,(Gs e6 e7).trans (f8.mono (Qe e6.size e7.size))⟩
   have k7:=hD;obtain⟨d1,d2,d3,d4,d5,d6,d7⟩:=k7;replace d3:=Zd d3;replace d5:=Zd d5;replace d7:=Zd d7;have g9:=bS.cell k;rw[Zaw lq k (by rw[hq.out];omega)]at g9;have k3:=bS.frozen k;go_wp2_with fail;have k4:2^s*b<=pw m:=Nat.le_of_lt b6;obtain⟨f6,f3⟩:=hD.win k4;have O:((lu.drop k).take (m+1)).length=m+1:=by rw[QN,List.length_drop,d3.out];omega
   have i9:MutL wr g4 k ((lu.drop k).take (m+1)):=by
    have:=hM.win (k:=k) (n:=m+1) (by rw[d3.out];omega)
    rwa [Qm]at this
   have U:val ((lu.drop k).take (m+1))<4294967296*val (o3.take m):=by rw[f6,a2.out];exact f3
   rw[show k+m+1-k=m+1 by omega];refine(Zx0 g4 k m (c4-k) c3 g3 0 _ _ _ i9 O ((d1.drop k).take (m+1)) Gk (by unfold maxLen;omega) Gk Gk i2 c2 U h8).mono ?_;rintro e w5 ⟨l,rfl,e4,h7,i5,j5,c0⟩
   have b4:val ((lu.drop k).take (m+1))/val (o3.take m)<4294967296:=by
    have j4:0<val (o3.take m):=by
     rcases Qc (val (o3.take m))with h0|h0;rw[h0]at U;omega;exact h0
    rw[Qd j4];exact U
   rw[O]at e4 c0;have hfin:=DivR.step2 (wr:=wr) hD hq.out hM bS i2 e0 a2.out e4 h7 i5 b4 j5 c0 e9 k2 j6 eK.size;have b2:Blk w5 w4.heap.size 106 (Z4 lq):=(c0.1.block _ bS.lt (λe=>e9 (by injection e with e;exact e.symm))).trans bS;have i6:=b2.cell k;rw[Zaw lq k (by rw[hq.out];omega)]at i6;have l3:=b2.frozen k;obtain⟨Q,hQ⟩:=Gz (val ((lu.drop k).take (m+1))/val (o3.take m));rw[hQ]at hfin b4 ⊢;clear g9 k3 i5 e4 hQ f6 O U f3;exact Io
theorem Zj1(A B:Option Addr)(n c m d:Nat)(a b:Nat)(w:World)(ha:Lim w A n c (digits a))(hb:Lim w B m d (digits b))(hn:n<=100000)(hb0:0<b) :
    Calls Tryz.prog 98 #[.slice A n c,.slice B m d] w (Zqx w a b):=by
 rcases QI a b with h|h;exact Zy3 A B n c m d a b w ha hb hn h;rcases QI m 2 with h2|h2
 ·have h1:0<(digits b).length:=length_digits_pos.2 hb0
  rw[hb.len]at h1;exact Z0g A B n c m d a b w ha hb hn h Gk
 exact Zxy A B n c m d a b w ha hb hn h h2
theorem rNeg_ok(neg:Bool)(A:Option Addr)(n c:Nat)(z:Int)(w:World)(hz:Wd w neg A n c z) :
    Calls Tryz.prog 75 #[.agg #[.bool neg,.slice A n c]] w (ResW w (-z)):=by
 have hL:=hz.lim;have hn:=hz.2.1;have u:∀ X Y:Obj,Below w.heap.size w ((w.alloc X).alloc Y):=λX Y=>((Qb w.heap.size w).alloc (Qa _) _).alloc Gh _;have u:=Zd u;have o:Hid (okW neg (digits z.natAbs)=true):=hz.ok;have U:=Zd hz.sgEq;clear hz;go_in;go_wp2_with fail;refine(Zbs ((hL.alloc _).alloc _) o.out).mono ?_;rintro e w1 ⟨rfl,f⟩;obtain⟨a0,V⟩:=Zc1 f;have a1:w.heap.size+1<w1.heap.size:=by have:=f.size;simp at this;omega
 have h:Below w.heap.size w w1:=(u.out _ _).trans (f.mono Gg)
 have g7:Hid (Blk w1 (w.heap.size+1) 39 #[.bool false,.slice none 0 0]):=by
  refine Ze f ?_;exact CF
 have O:=hL.below h;go_wp2_with fail;refine(Zb0 _ _ _ _ _ _ O Gk).mono ?_;rintro e w2 ⟨I,C,A3,n3,c3,y,rfl,J⟩;have T:Below w.heap.size w w2:=Gs h I;have m8:=Ze I g7.out;have m3:=m8.cell 0;have m4:=m8.cell 1;have m5:=m8.frozen 0;have m6:=m8.frozen 1;simp at m3 m4;replace m8:=Zd m8;clear a0 V;go_wp2_with fail;have HZ:sg (!neg) (val (digits z.natAbs))=-z:=by have h1:=U.out;rw[Zum,h1]
 refine bodyPost_ret (v:=.tuple #[.agg #[.bool C,.slice A3 n3 c3],.int .i64 y]) (by simp[results,Tryz.results75,go_sem,m3,m4]) rfl ?_;exact ResW.box (HZ▸J) T Gk m8.out
theorem Zj7(na nb:Bool)(A B:Option Addr)(n c m d:Nat)(za zb:Int)(w:World)(ha:Wd w na A n c za)(hb:Wd w nb B m d zb) :
    Calls Tryz.prog 31 #[.agg #[.bool na,.slice A n c],.agg #[.bool nb,.slice B m d]] w λe w'=>e=.returned (.int .i64 (Zco za zb))/\Below w.heap.size w w':=by
 have f:=ha.lim;have o:=hb.lim;have di:=ha.1;have dp:=hb.1;have aq:∀ X Y:Obj,Below w.heap.size w ((w.alloc X).alloc Y):=λX Y=>((Qb w.heap.size w).alloc (Qa _) _).alloc Gh _;have aq:=Zd aq;have gJ:=Zd (Zdh za.natAbs zb.natAbs);have gK:=Zd (Zdh zb.natAbs za.natAbs)
 have hP:Hid (∀ (e:Ending) (w':World),(e=.returned (.int .i64 (Zcm (digits za.natAbs) (digits zb.natAbs)))/\Below w.heap.size w w')->(na=false/\nb=false)->e=.returned (.int .i64 (Zco za zb))/\Below w.heap.size w w'):=λe w' ⟨h1,h2⟩ ⟨h3,h4⟩=>by
  subst h3 h4;have h5:¬ za<0:=by intro h;simp[h]at di
  have h6:¬ zb<0:=by intro h;simp[h]at dp
  exact IT
 have hN:Hid (∀ (e:Ending) (w':World),(e=.returned (.int .i64 (Zcm (digits zb.natAbs) (digits za.natAbs)))/\Below w.heap.size w w')->(na=true/\nb=true)->e=.returned (.int .i64 (Zco za zb))/\Below w.heap.size w w'):=λe w' ⟨h1,h2⟩ ⟨h3,h4⟩=>by
  subst h3 h4;have h5:za<0:=by by_cases h:za<0;exact h;simp[h]at di
  have h6:zb<0:=by by_cases h:zb<0;exact h;simp[h]at dp
  exact IF
 have hM:Hid (∀ b,na=b->nb=!b->Ending.returned (.int .i64 (if b then -1 else 1))=.returned (.int .i64 (Zco za zb))):=λb h3 h4=>by
  exact Fy
 clear ha hb di dp;cases na <;> cases nb
 ·go_in
  go_wp2_with (go_at_call 73;((with_reducible refine(Zck _ _ _ _ _ _ _ _ _ ((f.alloc _).alloc _) ((o.alloc _).alloc _)).mono ?_));rintro e w1 ⟨rfl,ab⟩);exact Cx
 ·go_in
  go_wp2_with fail;go_ret;exact⟨hM.out false rfl rfl,aq.out _ _⟩
 ·go_in
  go_wp2_with fail;go_ret;exact⟨hM.out true rfl rfl,aq.out _ _⟩
 go_in
 go_wp2_with (go_at_call 73;((with_reducible refine(Zck _ _ _ _ _ _ _ _ _ ((o.alloc _).alloc _) ((f.alloc _).alloc _)).mono ?_));rintro e w1 ⟨rfl,ab⟩);exact Cy
theorem Zmc(na nb:Bool)(A B:Option Addr)(n c m d:Nat)(za zb:Int)(w:World)(ha:Wd w na A n c za)(hb:Wd w nb B m d zb) :
    Calls Tryz.prog 59 #[.agg #[.bool na,.slice A n c],.agg #[.bool nb,.slice B m d]] w (ResW w (Qh za.natAbs zb.natAbs:Nat)):=by
 have a2:=ha.lim;have a0:=hb.lim;have hn:=ha.2.1;have hm:=hb.2.1;have J:∀ X Y Z:Obj,Below w.heap.size w (((w.alloc X).alloc Y).alloc Z):=λX Y Z=>(((Qb w.heap.size w).alloc (Qa _) _).alloc Gh _).alloc Gg _;have J:=Zd J;have y:Hid ((okW na (digits za.natAbs) && okW nb (digits zb.natAbs))=true):=by unfold Hid;rw[ha.ok,hb.ok];rfl
 clear ha hb;generalize za.natAbs=va at *;generalize zb.natAbs=vb at *;obtain⟨G,hG⟩:=Gz (Qh va vb);rw[hG];replace hG:=Zd hG;go_in;go_wp2_with fail;refine(Ze7 (((a2.alloc _).alloc _).alloc _) (((a0.alloc _).alloc _).alloc _) y.out).mono ?_;rintro e w1 ⟨rfl,f⟩;obtain⟨C,a6⟩:=Zc1 f;have a9:w.heap.size+1+1<w1.heap.size:=by have:=f.size;simp at this;omega
 have o:Below w.heap.size w w1:=(J.out _ _ _).trans (f.mono Gg);have g1:w1.cell? ⟨w.heap.size,1,none⟩=some (.slice A n c):=by simp[C,go_sem]
 have g2:w1.cell? ⟨w.heap.size+1,1,none⟩=some (.slice B m d):=by simp[C,go_sem]
 have g7:Blk w1 (w.heap.size+1+1) 39 #[.bool false,.slice none 0 0]:=by
  refine Ze f ?_;exact Ev
 have V:=a2.below o;have O:=a0.below o;replace g7:=Zd g7;clear C a6;go_wp2_with fail
 go_quiet (fail)
 have m7:Hid (Blk (w1.drewN nq) (w.heap.size+1+1) 39 #[.bool false,.slice none 0 0]):=Blk.drewN g7.out nq;have a4:Below w.heap.size w (w1.drewN nq):=Zh o nq;go_wp2_with fail
 go_loopw [6,7] (λxv yv wr=>GcdR w 39 G xv yv wr) (λ_ yv wr=>val (Zki wr yv))
 case atStart=>exact⟨va,vb,_,_,_,_,_,_,rfl,rfl,V,O,hn,hm,hG.out,m7.out,a4⟩
 case round =>
  obtain⟨u,v,A5,n5,c5,B5,m5,d5,rfl,rfl,U,bz,a8,iy,hg,az,dx⟩:=hrel;replace hg:=Zd hg;replace az:=Zd az;by_cases hm0:0<m5
  ·have du:0<v:=by rw[<- bz.len]at hm0;exact length_digits_pos.1 hm0
   have eE:=Zd bz.mem;go_wp2_with fail;refine(Zj1 _ _ _ _ _ _ u v _ U bz Gk du).mono ?_;exact EF
  obtain rfl:m5=0:=Gk
  have du:v=0:=by
   exact IH
  subst du;have a3:Hid (u=G):=by have:=hg.out;rw[Nat.gcd_zero_right]at this;exact this
  have g8:=az.out;have g3:=g8.cell 0;have g4:=g8.cell 1;have g5:=g8.frozen 0;have g6:=g8.frozen 1;simp at g3 g4;clear g8;go_wp2_with fail;refine(Zb0 _ _ _ _ _ _ U Gk).mono ?_;rintro e w6 ⟨a1,T,A7,n7,c7,I,rfl,a5⟩;have a7:Below w.heap.size w w6:=Gs dx a1;have m8:=Ze a1 az.out;have m3:=m8.cell 0;have m4:=m8.cell 1;have m5:=m8.frozen 0;have m6:=m8.frozen 1;simp at m3 m4;replace m8:=Zd m8;go_wp2_with fail;have HZ:sg false (val (digits u))=(G:Int):=by rw[Zk,a3.out];rfl
  refine bodyPost_ret (v:=.tuple #[.agg #[.bool T,.slice A7 n7 c7],.int .i64 I]) (by simp[results,Tryz.results59,go_sem,m3,m4]) rfl ?_;exact ResW.box (HZ▸a5) a7 Gk m8.out
