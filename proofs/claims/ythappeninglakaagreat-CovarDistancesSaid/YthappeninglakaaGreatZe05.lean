/- Package wide: divide. Package wide: Neg. Package wide: -/
import Derived.BigQuiet
import Derived.Deep.QuietTactic
import Derived.Deep.CutBlock
import Derived.Deep.DeepCutAuto
import Derived.Test.YthappeninglakaaGreatZe04
set_option maxRecDepth 100000
set_option maxHeartbeats 4000000
set_option linter.unusedSimpArgs false
set_option linter.unusedVariables false
namespace Go.Proofs.YthappeninglakaaGreat
open Go.RowKit
open Nat renaming le_refl→Qa,div_lt_iff_lt_mul→Qc,eq_zero_or_pos→Qd,le_trans→Qf,gcd→Qg,mod_lt→Qh,mul_assoc→Qj,lt_of_le_of_lt→Qk,pow_pos→Qm,mul_zero→Qn,zero_add→Qo,mul_le_mul_right→Qq,mul_lt_mul_of_pos_left→Qs,mul_le_mul_left→Qt,mul_comm→Qv,le_of_lt→Qw,mod_eq_of_lt→Qx,lt_or_ge→Qz,div_add_mod→QA,and_two_pow_sub_one_eq_mod→QB,mul_add→QC,add_zero→QD,div_eq_of_lt→QE,gcd_pos_of_pos_right→QF,mul_div_cancel_left→QH,div_le_self→QJ,zero_le→QK,mul_one→QL,mul_le_mul→QN,pow_le_pow_right→QP,lt_trans→QS,gcd_zero_right→QT,lt_trichotomy→QU,gcd_dvd_left→QW
open Below renaming refl→Qb
open List renaming length_set→Qe,drop_of_length_le→Ql,length_take→Qp,replicate→QM,length_drop→QV,drop_zero→QY
open Int renaming fdiv→Qi,fmod→Qr,fdiv_eq_ediv_of_dvd→QI,neg_ediv_of_dvd→QR,natCast_ediv→QX
open World renaming cell?_setCell_other→Qu,cell?_of_block→QQ
open Blk renaming new→Qy
open IntKind renaming wrap_u64→QG
open Rat renaming divInt→QO
open And renaming intro→QZ
attribute [local go_sem] Zg
def Zqw(w:World)(a b:Nat)(e:Ending)(w':World):Prop:=
 ∃ A n c B m d,e=.returned (.tuple #[.slice A n c,.slice B m d])/\Lim w' A n c (digits (a/b))/\Lim w' B m d (digits (a%b))/\Below w.heap.size w w'
theorem Blk.setCells{w:World}{g g' o:Nat}{t:TypeId}{cs:Array Value}{us:List Value}(h:Blk w g t cs)(hne:g≠g'):Blk (w.setCells g' o us) g t cs:=by
 induction us generalizing o w with
 | nil=>exact h
 | cons u us ih=>exact ih (h.far hne u)
theorem Znq{B:Nat}{w w':World}{g o:Nat}{us:List Value}(h:Below B w w')(hg:B<=g):Below B w (w'.setCells g o us):=by
 induction us generalizing o w' with
 | nil=>exact h
 | cons u us ih=>exact ih (h.setCell (p:=⟨g,o,none⟩) hg u)
theorem Zif{v:List Nat}{n:Nat}(hn:v.length=n)(h0:0<n)(hlt:Lt32 v):val v<(v[n-1]?.getD 0+1)*pw (n-1):=by
 have e:=Zae v (n-1) Gk;rw[Zbu Gk,Ql Gk]at e;have h1:=Zgq (hlt.take (n-1));rw[Qp,Nat.min_eq_left Gk]at h1;simp only[val]at e;rw[e,Nat.add_mul,Nat.one_mul,Qv (v[n-1]?.getD 0)];simp only[Qn,QD];omega
theorem Zmn{v:Nat}(h:(digits v).length=1):digits v=[v]/\0<v/\v<4294967296:=by
 have hv:0<v:=length_digits_pos.1 Gk;have e:=Zcw v;rw[h]at e;have:v<4294967296:=e;refine⟨?_,hv,this⟩;rw[Zdq Gk,QE this,Qx this,Zar]
theorem Zso(A B:Option Addr)(n c m d:Nat)(a b:Nat)(w:World)(ha:Lim w A n c (digits a))(hb:Lim w B m d (digits b))(hn:n<=100000)(h:a<b) :
    Calls Tryz.prog 182 #[.slice A n c,.slice B m d] w (Zqw w a b):=by
 have y:Hid (Zcn (digits a) (digits b)<0):=by
  have:=(Zhu (va:=a) (vb:=b));unfold Hid;omega
 obtain⟨cv,f⟩:∃ x:Int,Zcn (digits a) (digits b)=x:=⟨_,rfl⟩;have I:cv<0:=by rw[<- f];exact y.out
 have HC:=Zb f;clear y f;go_in;go_wp2_with fail;refine(Zcs _ _ _ _ _ _ _ _ _ ha hb).mono ?_;rintro e w1 ⟨u,o⟩;rw[HC.out]at u;subst u;go_wp2_with fail;refine(Zia _ _ _ _ _ (ha.below o) Gk).mono ?_;rintro e w2 ⟨v,rfl,hO,C⟩;obtain⟨A2,c2,hv,hL⟩:=hO.lim;subst hv;go_wp2_with fail
 go_ret2
 have hB:Below w.heap.size w w2:=Gs o C;exact⟨_,_,_,_,_,_,rfl,by rw[QE h,Zar];exact Lim.nil _ _ _ (QK _),by rw[Qx h];rw[show (digits a).length=n from ha.len]at hL ⊢;exact hL,hB⟩
theorem IQ{G:Prop}(h:G:=by
 have:=Lim.of_blk (l:=[r]) (Blk.new w2 t (Zz [r])) (Lt32.cons dy Lt32.nil) (by simp[maxLen]);exact this):G:=h
theorem Zt5(A B:Option Addr)(n c m d:Nat)(a b:Nat)(w:World)(ha:Lim w A n c (digits a))(hb:Lim w B m d (digits b))(hn:n<=100000)(h:b<=a)(hm:m=1) :
    Calls Tryz.prog 182 #[.slice A n c,.slice B m d] w (Zqw w a b):=by
 subst hm;have a8:=ha.2.1;have a2:=ha.2.2.1;have a9:=hb.2.1;have a4:=hb.2.2.1;unfold maxLen at a2 a4;obtain⟨cv,u⟩:∃ x:Int,Zcn (digits a) (digits b)=x:=⟨_,rfl⟩;have I:¬ cv<0:=by rw[<- u];have:=(Zhu (va:=a) (vb:=b));omega
 have a3:decide (cv<0)=false:=by simpa using I
 have HC:=Zb u;clear u I;obtain⟨J,U,C⟩:=Zmn hb.len;obtain⟨g,o,rfl,f⟩:=hb.at_ (k:=0) Gk;rw[J]at f;simp at f;replace J:=Zb J;have dy:a%b<4294967296:=QS (Qh _ U) C;have a6:=Zb (Zi a);go_in;go_wp2_with fail;refine(Zcs _ _ _ _ _ _ _ _ _ ha hb).mono ?_;rintro e w1 ⟨Y,y⟩;rw[HC.out]at Y;subst Y;have a1:=Za y f;go_wp2_with fail;refine(Zxg _ _ _ b _ _ (ha.below y) U C Gk).mono ?_;rintro e w2 ⟨A2,n2,c2,rfl,a0,V⟩;rw[a6.out]at a0 ⊢;obtain⟨r,hr⟩:=Gz (a%b);rw[hr]at dy ⊢;replace hr:=Zb hr
 have a5:∀ t,Lim (w2.alloc (.cells #[limb r] t)) (some ⟨w2.heap.size,0,none⟩) 1 1 [r]:=λt=>by
  exact IQ
 have O:=Zb a5;have a7:canon [r]=digits r:=by have:=Ztj (Lt32.cons dy Lt32.nil);simpa [val]using this
 go_wp2_with fail;refine(Zgd _ _ _ _ _ (O.out _)).mono ?_;rintro e w3 ⟨rfl,rfl⟩;go_wp2_with fail
 go_ret2
 have T:=(O.out 106).canon.1;rw[show val [r]=r by simp[val]]at T ⊢;refine⟨_,_,_,_,_,_,rfl,a0.alloc _,by rw[hr.out];exact T,((Gs y V)).alloc (Qf y.size V.size) _⟩
theorem Lim.far{w:World}{A:Option Addr}{n c:Nat}{l:List Nat}(h:Lim w A n c l){p:Addr}{u:Value}(hne:∀ b o,A=some ⟨b,o,none⟩->b≠p.block):Lim (w.setCell p u) A n c l:=
 ⟨h.1,h.2.1,h.2.2.1,h.2.2.2.1,λhn=>by
  obtain⟨b,o,e,hc⟩:=h.2.2.2.2 hn;have hb:=hne b o e;exact⟨b,o,e,λk hk=>(Qu w _ _ u (λe2=>hb (by rw[e2]))).trans (hc k hk)⟩⟩
theorem Lim.setCells{A:Option Addr}{n c g:Nat}{l:List Nat}{us:List Value}(hne:∀ b o,A=some ⟨b,o,none⟩->b≠g):∀ {w:World} {o:Nat},Lim w A n c l->Lim (w.setCells g o us) A n c l:=by
 induction us with
 | nil=>exact λh=>h
 | cons u us ih=>exact λh=>ih (h.far hne)
theorem MutL.far{w:World}{g off:Nat}{l:List Nat}(h:MutL w g off l){p:Addr}{u:Value}(hne:g≠p.block):MutL (w.setCell p u) g off l:=λj hj =>
 ⟨(Qu w _ _ u (λe2=>hne (by rw[e2]))).trans (h j hj).1,by rw[World.frozen?_setCell];exact(h j hj).2⟩
theorem MutL.lim{w:World}{g:Nat}{l:List Nat}{n c:Nat}(h:MutL w g 0 l)(hl:l.length=n)(hnc:n<=c)(hcm:c<=maxLen)(hlt:Lt32 l):Lim w (some ⟨g,0,none⟩) n c l:=
 ⟨hl,hnc,hcm,hlt,λ_=>⟨g,0,rfl,λk hk=>(h k Gk).1⟩⟩
def DivR(w:World)(g q:Nat)(A:Option Addr)(c m nq:Nat)(vl:List Nat)(a b s k:Nat)(wr:World):Prop:=
 ∃ lu lq,DivI (2^s*a) (2^s*b) m lu lq k/\lq.length=nq/\MutL wr g 0 lu/\Blk wr q 106 (Zz lq)/\Lim wr A m c vl/\Below w.heap.size w wr
theorem DivR.step{w wr wr1:World}{g q:Nat}{A:Option Addr}{c m nq:Nat}{vl lu lq:List Nat}{a b s k:Nat}{l:List Nat}(hD:DivI (2^s*a) (2^s*b) m lu lq (k+1))(hq:lq.length=nq)(hM:MutL wr g 0 lu)(hB:Blk wr q 106 (Zz lq))
    (hL:Lim wr A m c vl) (hw:Below w.heap.size w wr) (hv:val vl=2^s*b) (hlen:l.length=m+1) (hlt:Lt32 l) (hl:val l=val ((lu.drop k).take (m+1))%val vl) (hb1:Below wr.heap.size wr wr1) (hQ:val ((lu.drop k).take (m+1))/val vl<4294967296)
    (hgq:g≠q) (hA:∀ b o,A=some ⟨b,o,none⟩->b≠g/\b≠q) (hg:w.heap.size<=g) (hqs:w.heap.size<=q) :
    DivR w g q A c m nq vl a b s k ((wr1.setCells g k (l.map limb)).setCell ⟨q,k,none⟩ (limb (val ((lu.drop k).take (m+1))/val vl))):=by
 have h:2^s*b<=pw m:=by rw[<- hv];exact Qw hL.lt_pw
 have f:k+l.length<=lu.length:=by have:=hD.2.2.1;have:=hD.2.2.2.1;omega
 refine⟨splice lu k l,lq.set k (val ((lu.drop k).take (m+1))/val vl),hD.step h hlen hlt hQ (by rw[hv]) (by rw[<- hv];exact hl),by rw[Qe];exact hq,
  ((hM.below hb1).splice f).far hgq,?_,((hL.below hb1).setCells (λb o e=>(hA b o e).1)).far (λb o e=>(hA b o e).2),?_⟩
 ·rw[<- Zb2]
  exact((hB.below hb1 hB.lt).setCells (Ne.symm hgq)).set_ _ _
 exact(Znq (Gs hw hb1) hg).setCell (p:=⟨q,k,none⟩) hqs _
theorem II{G:Prop}(h:G:=by
 have:=Lim.of_blk bP hD.2.1 (by rw[hq.out];unfold maxLen;omega);rw[hq.out]at this;exact this):G:=h
theorem Ii{G:Prop}(h:G:=by
 have h1:2^s*(x+1)<=2^s*2^(32-s):=Nat.mul_le_mul_left _ hxs;rw[<- Nat.pow_add,show s+(32-s)=32 by omega]at h1;exact h1):G:=h
theorem Iq{G:Prop}(h:G:=by
 replace hfin:=Zb hfin;go_wp2_with fail
 go_roundw
 case rel=>exact⟨k,by omega,by go_num,hfin.out⟩
 case measure=>simp[intOf] <;> omega):G:=h
theorem Iw{G:Prop}(h:G:=by
 have h1:=Zae o3 m Gk;rcases Nat.eq_zero_or_pos (val (o3.drop m))with h0|h0;rw[h0]at h1;omega;have:=Nat.mul_le_mul_left (pw m) h0;omega):G:=h
theorem ED{G:Prop}(h:G:=by
 have h1:=DivI.start (a:=digits a) (b:=digits b) (u:=o4) (s:=s) (n:=m) (by rw[cK];exact cW.out) (by rw[cV.out,ha.len]) ea.2 (by rw[ha.len];exact iG) ha.lt (by rw[cL];have:=Nat.mul_le_mul_right (pw (m-1)) (show 1<=x by omega);omega) Gk;rw[cK,cL,ha.len]at h1;exact⟨o4,_,h1,by simp,fe.below ((Below.refl _ _).alloc (Nat.le_refl _) _),Blk.new _ _ _,be.alloc _,eU.alloc eU.size _⟩):G:=h
theorem Zs1(A B:Option Addr)(n c m d:Nat)(a b:Nat)(w:World)(ha:Lim w A n c (digits a))(hb:Lim w B m d (digits b))(hn:n<=100000)(h:b<=a)(hm:2<=m) :
    Calls Tryz.prog 182 #[.slice A n c,.slice B m d] w (Zqw w a b):=by
 have i1:=ha.2.1;have g0:=ha.2.2.1;have h8:=hb.2.1;have g1:=hb.2.2.1;unfold maxLen at g0 g1;have iG:m<=n:=by have:=Z5 h;rw[ha.len,hb.len]at this;exact this
 obtain⟨i0,hi,f8,g9,g5⟩:=info_parts Zdj;have h9:=Zgs (P:=Tryz.prog) 37 106 Tryz.underlying37 hi f8 g9 g5 ((n:Int)+1-m) (n+1-m) Gk Gk;obtain⟨cv,a1⟩:∃ x:Int,Zcn (digits a) (digits b)=x:=⟨_,rfl⟩;have a7:¬ cv<0:=by rw[<- a1];have:=(Zhu (va:=a) (vb:=b));omega
 have f6:decide (cv<0)=false:=by simpa using a7
 have HC:=Zb a1;clear a1 a7;have i4:((m:Int) == 1)=false:=by simp;omega
 obtain⟨g,o,rfl,y⟩:=hb.at_ (k:=m-1) Gk;have f:=hb.len;have b3:=Zfy (v:=b) Gk;have e8:=Zqg f Gk;have a6:=hb.lt.get (m-1);have e6:=Zcw b;rw[f]at b3 e6;have T:=Zif f Gk hb.lt;rw[Zi]at e8 T;obtain⟨x,hx⟩:=Gz ((digits b)[m-1]?.getD 0);rw[hx]at y b3 e8 a6 T;replace f:=Zb f;replace hx:=Zb hx;have cK:=Zb (Zi a);have cL:=Zb (Zi b);go_in;go_wp2_with fail;refine(Zcs _ _ _ _ _ _ _ _ _ ha hb).mono ?_;rintro e w1 ⟨c7,I⟩;rw[HC.out]at c7;subst c7;have a4:=Za I y;go_wp2_with fail;refine(Z1e x _ Gk a6).mono ?_;rintro e w2 ⟨s,rfl,hs,hxs,rfl⟩;have f5:=ha.below I;have c2:=hb.below I;go_wp2_with fail
 go_region_with (first
  | (go_at_call 166;((with_reducible refine(Zs8 (some ⟨g,o,none⟩) m d s (digits b) _ c2.drew hs Gk).mono ?_));rintro e w3 ⟨v3,o3,rfl,e5,V,a0,a3⟩;obtain⟨A3,c3,J,O⟩:=e5.lim;rw[V]at J O;subst J;have h5:=O.2.1;have e0:=O.2.2.1;unfold maxLen at e0;replace V:=Zb V;replace a0:=Zb a0;clear e5)
  | (go_at_call 166;((with_reducible refine(Zs8 A n c s (digits a) _ (f5.drew.below a3) hs Gk).mono ?_));rintro e w4 ⟨v4,o4,rfl,ea,cV,cW,b8⟩;obtain⟨g4,c4,b2,i3,h6,d8,d0,fe⟩:=ea.mut Gk;rw[cV]at b2 d8;subst b2;unfold maxLen at d0;replace cV:=Zb cV;replace cW:=Zb cW))
 all_goals go_wp2_with fail
 all_goals
  replace cL:=cL.out;replace cK:=cK.out;rw[cL]at a0;rw[cK]at cW;have a9:=V.out;have J:=a0.out
  have d9:2^s*(x+1)<=4294967296:=by
   exact Ii
  have e3:2^s*b<pw m:=by
   have h1:2^s*b<2^s*((x+1)*pw (m-1)):=Qs T (Qm Gk);have h2:2^s*((x+1)*pw (m-1))<=4294967296*pw (m-1):=by rw[<- Qj];exact Qq _ d9
   rw[<- Za7,show m-1+1=m by omega]at h2;omega
  have a2:val (o3.take m)=2^s*b:=by
   exact Iw
  have be:=(O.take (k:=m) Gk).below b8
  have i2:pw (m-1)<=2^s*b:=by
   have h1:=Qq (pw (m-1)) (show 1<=x by omega);have h2:1*b<=2^s*b:=Qq _ (Qm Gk);omega
  have g8:(o3.take m)[m-1]?.getD 0≠0:=λh0=>by
   have h1:=Zif (v:=o3.take m) (n:=m) (by rw[Qp,a9];omega) Gk be.lt;rw[h0,a2]at h1;omega
  have eU:Below w.heap.size w w4:=(I.trans ((Zu a3).mono I.size)).trans (b8.mono (Qf I.size (Zu a3).size))
  have a5:DivR w g4 w4.heap.size A3 c3 m (n+1-m) (o3.take m) a b s (n+1-m) (w4.alloc (.cells (Zz (QM (n+1-m) 0)) 106)):=by
   exact ED
  have g2:∀ b o,A3=some ⟨b,o,none⟩->b≠g4/\b≠w4.heap.size:=λb o e=>by
   subst e;have h1:=Zo (O.cell (k:=0) Gk);have:=b8.size;simp only[]at h1;omega
  have f9:w.heap.size<=g4:=by have:=I.size;have:=(Zu a3).size;omega
  have b9:g4≠w4.heap.size:=Gk;clear fe ea cV cW a0 V cK cL y a4 J a9;replace a2:=Zb a2
  go_loopw [12] (λjv wr=>∃ k:Nat,k<=n+1-m/\jv=.int .i64 ((k:Int)-1)/\DivR w g4 w4.heap.size A3 c3 m (n+1-m) (o3.take m) a b s k wr) (λjv _=>(intOf jv+1).toNat)
  case atStart=>exact⟨n+1-m,Qa _,rfl,a5⟩
  case round =>
   obtain⟨k,hk,rfl,lu,lq,hD,hq,hM,bP,f0,b7⟩:=hrel;replace hq:=Zb hq;rcases k with _|k
   ·obtain⟨e1,e2⟩:=hD.stop
    have b4:Lim wr (some ⟨g4,0,none⟩) (n+1) c4 lu:=hM.lim (by have:=hD.2.2.1;have:=hq.out;omega) d8 (by unfold maxLen;omega) hD.1
    have h3:Lim wr (some ⟨w4.heap.size,0,none⟩) (n+1-m) (n+1-m) lq:=by
     exact II
    have c9:=b4.canon.1;replace e1:=Zb e1;replace e2:=Zb e2;clear hD;go_wp2_with fail;refine(Zgd _ _ _ _ _ b4).mono ?_;rintro e w5 ⟨rfl,rfl⟩;go_wp2_with fail;refine(Zoz _ _ _ s _ _ c9 hs (by have:=b4.canon.2;omega)).mono ?_;rintro e w6 ⟨A6,n6,c6,o6,b6,rfl,c0,c8,Y⟩
    have hz:Hid (val o6=a%b):=by
     unfold Hid;rw[c8,Zi,e2.out,QH _ (Qm Gk)]
    clear c8;have b1:=h3.below Y;go_wp2_with fail;refine(Zgd _ _ _ _ _ b1).mono ?_;rintro e w7 ⟨rfl,rfl⟩;go_wp2_with fail;refine(Zgd _ _ _ _ _ c0).mono ?_;rintro e w8 ⟨rfl,rfl⟩;go_wp2_with fail
    go_ret2
    refine⟨_,_,_,_,_,_,rfl,?_,?_,Gs b7 Y⟩;rw[<- e1.out];exact b1.canon.1;rw[<- hz.out];exact c0.canon.1
   have h4:=hD;obtain⟨d1,d2,d3,d4,d5,d6,d7⟩:=h4;replace d3:=Zb d3;replace d5:=Zb d5;replace d7:=Zb d7;have e4:=bP.cell k;rw[Zas lq k (by rw[hq.out];omega)]at e4;have g6:=bP.frozen k;go_wp2_with fail;have g7:2^s*b<=pw m:=Qw e3;obtain⟨c5,c1⟩:=hD.win g7;have C:((lu.drop k).take (m+1)).length=m+1:=by rw[Qp,QV,d3.out];omega
   have f7:MutL wr g4 k ((lu.drop k).take (m+1)):=by
    have:=hM.win (k:=k) (n:=m+1) (by rw[d3.out];omega)
    rwa [Qo]at this
   have U:val ((lu.drop k).take (m+1))<4294967296*val (o3.take m):=by rw[c5,a2.out];exact c1
   rw[show k+m+1-k=m+1 by omega];refine(Zzz g4 k m (c4-k) c3 A3 _ _ _ f7 C ((d1.drop k).take (m+1)) Gk (by unfold maxLen;omega) Gk Gk f0 U g8).mono ?_;rintro e w5 ⟨l,w6,rfl,e7,e9,f3,Y,b5⟩
   have b0:val ((lu.drop k).take (m+1))/val (o3.take m)<4294967296:=by
    rw[Qc Gk];exact U
   have hfin:=DivR.step (wr:=wr) hD hq.out hM bP f0 b7 a2.out (by rw[e7];exact C) e9 f3 Y b0 b9 g2 f9 eU.size;rw[<- b5]at hfin;have a8:Blk w5 w4.heap.size 106 (Zz lq):=by rw[b5];exact(bP.below Y bP.lt).setCells (Ne.symm b9)
   have f4:=a8.cell k;rw[Zas lq k (by rw[hq.out];omega)]at f4;have h7:=a8.frozen k;obtain⟨Q,hQ⟩:=Gz (val ((lu.drop k).take (m+1))/val (o3.take m));rw[hQ]at hfin b0 ⊢;clear e4 g6 b5 f3 e7 hQ c5 C U c1;exact Iq
theorem Zg8(A B:Option Addr)(n c m d:Nat)(a b:Nat)(w:World)(ha:Lim w A n c (digits a))(hb:Lim w B m d (digits b))(hn:n<=100000)(hb0:0<b) :
    Calls Tryz.prog 182 #[.slice A n c,.slice B m d] w (Zqw w a b):=by
 rcases Qz a b with h|h;exact Zso A B n c m d a b w ha hb hn h;rcases Qz m 2 with h2|h2
 ·have h1:0<(digits b).length:=length_digits_pos.2 hb0
  rw[hb.len]at h1;exact Zt5 A B n c m d a b w ha hb hn h Gk
 exact Zs1 A B n c m d a b w ha hb hn h h2
theorem CI{G:Prop}(h:G:=by
 have:=Blk.new (w.alloc (.cells #[.bool neg,.slice A n c] 39)) 39 #[.bool false,.slice none 0 0];exact Et):G:=h
theorem Neg_ok(neg:Bool)(A:Option Addr)(n c:Nat)(z:Int)(w:World)(hz:Wd w neg A n c z) :
    Calls Tryz.prog 183 #[.agg #[.bool neg,.slice A n c]] w (ResW w (-z)):=by
 have hL:=hz.lim;have hn:=hz.2.1
 have hW:∀ X Y t,WL (((w.alloc X).alloc Y).alloc (.cells #[.bool neg,.slice A n c] t)) (some ⟨w.heap.size+1+1,0,none⟩) 1 1 [⟨neg,A,n,c,digits z.natAbs⟩]:=λX Y t=>by
  have:=WL.one (neg:=neg) ((hL.alloc X).alloc Y) t;exact Et
 have hW:=Zb hW;have C:∀ X Y Z:Obj,Below w.heap.size w (((w.alloc X).alloc Y).alloc Z):=λX Y Z=>(((Qb w.heap.size w).alloc (Qa _) _).alloc Gh _).alloc Gg _;have C:=Zb C;have y:Hid (okW neg (digits z.natAbs)=true):=hz.ok;have a1:=Zb hz.sgEq;clear hz;go_in;go_wp2_with fail;refine(Zdk (hW.out _ _ _) (by have:=y.out;simp[WE.ok,this])).mono ?_;rintro e w1 ⟨rfl,u⟩;obtain⟨J,a2⟩:=Zc0 u;have a5:w.heap.size+1+1<w1.heap.size:=by have:=u.size;simp at this;omega
 have o:Below w.heap.size w w1:=(C.out _ _ _).trans (u.mono Gg);have g0:w1.cell? ⟨w.heap.size,0,none⟩=some (.bool neg):=by simp[J,go_sem]
 have g1:w1.cell? ⟨w.heap.size,1,none⟩=some (.slice A n c):=by simp[J,go_sem]
 have g7:Blk w1 (w.heap.size+1) 39 #[.bool false,.slice none 0 0]:=by
  refine Zc u (Blk.alloc ?_ _);exact CI
 have g3:=g7.cell 0;have g4:=g7.cell 1;have g5:=g7.frozen 0;have g6:=g7.frozen 1;simp at g3 g4;have a0:=hL.below o;clear J a2;go_wp2_with fail
 go_region_held3 (λw'=>w'.cell? ⟨w.heap.size,0,none⟩=some (.bool neg)/\w'.cell? ⟨w.heap.size,1,none⟩=some (.slice A n c))
  (((try dsimp only);(repeat' apply QZ);all_goals (first|go_keep|(simp[*,go_sem];done))))
  (first
   | (go_at_call 181;refine(Zia _ _ _ _ _ (by exact a0) Gk).mono ?_;rintro e w2 ⟨v2,rfl,T,f⟩;obtain⟨A2,c2,V,a3⟩:=T.lim;subst V;clear T;have k0:=Za f g0;have k1:=Za f g1;have k3:=Za f g3;have k4:=Za f g4;have k5:=Zl f g3 g5;have k6:=Zl f g4 g6;have k7:=Zc f g7)
   | (go_at_call 158;refine(Zb8 _ _ _ _ _ _ (by exact a3)).mono ?_;rintro e w3 ⟨h,O,A3,n3,c3,I,rfl,U⟩;have m0:=Za h k0;have m1:=Za h k1;have m3:=Za h k3;have m4:=Za h k4;have m5:=Zl h k3 k5;have m6:=Zl h k4 k6;have m7:=Zc h k7))
 have a4:Below w.heap.size w w3:=(o.trans ((Zu f).mono o.size)).trans (h.mono (Qf o.size (Zu f).size))
 have HZ:sg (!neg) (val (digits z.natAbs))=-z:=by
  have h1:=a1.out;rw[Zuk,h1]
 go_wp2
 refine bodyPost_ret (v:=.tuple #[.agg #[.bool O,.slice A3 n3 c3],.int .i64 I]) (by simp[results,Tryz.results183,go_sem,m3,m4]) rfl ?_;exact ResW.box (HZ▸U) a4 Gk m7
def Zcr(a b:Int):Int:=if a<b then -1 else if b<a then 1 else 0
theorem Zdc(a b:Nat):Zcn (digits a) (digits b)=Zcr a b:=by
 unfold Zcn Zcr;rw[Zi,Zi];have h1:a<=b->(digits a).length<=(digits b).length:=Z5;have h2:b<=a->(digits b).length<=(digits a).length:=Z5
 (repeat' split) <;> first|rfl|omega
theorem Cz{G:Prop}(h:G:=by
 go_ret;exact hP.out _ _ ⟨rfl,(aq.out _ _).trans (ab.mono Gg)⟩ Gh):G:=h
theorem IA{G:Prop}(h:G:=by
 go_ret;exact hN.out _ _ ⟨rfl,(aq.out _ _).trans (ab.mono Gg)⟩ Gh):G:=h
theorem IH{G:Prop}(h:G:=by
 refine⟨?_,h2⟩;rw[h1,gV.out];congr 2;unfold Zcr
 split <;> split <;> (try split) <;> omega):G:=h
theorem IV{G:Prop}(h:G:=by
 refine⟨?_,h2⟩;rw[h1,gU.out,show ((za.natAbs:Nat):Int)=za by omega,show ((zb.natAbs:Nat):Int)=zb by omega]):G:=h
theorem Fy{G:Prop}(h:G:=by
 refine Zic ?_;unfold Zcr;cases b
 ·have h5:¬ za<0:=by intro h;simp[h,h3]at dw
  have h6:zb<0:=by by_cases h:zb<0;exact h;simp[h,h4]at dx
  rw[Gw (show ¬ za<zb by omega),Gx (show zb<za by omega)];rfl
 have h5:za<0:=by by_cases h:za<0;exact h;simp[h,h3]at dw
 have h6:¬ zb<0:=by intro h;simp[h,h4]at dx
 rw[Gx (show za<zb by omega)];rfl):G:=h
theorem to_ok(na nb:Bool)(A B:Option Addr)(n c m d:Nat)(za zb:Int)(w:World)(ha:Wd w na A n c za)(hb:Wd w nb B m d zb) :
    Calls Tryz.prog 165 #[.agg #[.bool na,.slice A n c],.agg #[.bool nb,.slice B m d]] w λe w'=>e=.returned (.int .i64 (Zcr za zb))/\Below w.heap.size w w':=by
 have f:=ha.lim;have o:=hb.lim;have dw:=ha.1;have dx:=hb.1;have aq:∀ X Y:Obj,Below w.heap.size w ((w.alloc X).alloc Y):=λX Y=>((Qb w.heap.size w).alloc (Qa _) _).alloc Gh _;have aq:=Zb aq;have gU:=Zb (Zdc za.natAbs zb.natAbs);have gV:=Zb (Zdc zb.natAbs za.natAbs)
 have hP:Hid (∀ (e:Ending) (w':World),(e=.returned (.int .i64 (Zcn (digits za.natAbs) (digits zb.natAbs)))/\Below w.heap.size w w')->(na=false/\nb=false)->e=.returned (.int .i64 (Zcr za zb))/\Below w.heap.size w w'):=λe w' ⟨h1,h2⟩ ⟨h3,h4⟩=>by
  subst h3 h4;have h5:¬ za<0:=by intro h;simp[h]at dw
  have h6:¬ zb<0:=by intro h;simp[h]at dx
  exact IV
 have hN:Hid (∀ (e:Ending) (w':World),(e=.returned (.int .i64 (Zcn (digits zb.natAbs) (digits za.natAbs)))/\Below w.heap.size w w')->(na=true/\nb=true)->e=.returned (.int .i64 (Zcr za zb))/\Below w.heap.size w w'):=λe w' ⟨h1,h2⟩ ⟨h3,h4⟩=>by
  subst h3 h4;have h5:za<0:=by by_cases h:za<0;exact h;simp[h]at dw
  have h6:zb<0:=by by_cases h:zb<0;exact h;simp[h]at dx
  exact IH
 have hM:Hid (∀ b,na=b->nb=!b->Ending.returned (.int .i64 (if b then -1 else 1))=.returned (.int .i64 (Zcr za zb))):=λb h3 h4=>by
  exact Fy
 clear ha hb dw dx;cases na <;> cases nb
 ·go_in
  go_wp2_with (go_at_call 186;((with_reducible refine(Zcs _ _ _ _ _ _ _ _ _ ((f.alloc _).alloc _) ((o.alloc _).alloc _)).mono ?_));rintro e w1 ⟨rfl,ab⟩);exact Cz
 ·go_in
  go_wp2_with fail;go_ret;exact⟨hM.out false rfl rfl,aq.out _ _⟩
 ·go_in
  go_wp2_with fail;go_ret;exact⟨hM.out true rfl rfl,aq.out _ _⟩
 go_in
 go_wp2_with (go_at_call 186;((with_reducible refine(Zcs _ _ _ _ _ _ _ _ _ ((o.alloc _).alloc _) ((f.alloc _).alloc _)).mono ?_));rintro e w1 ⟨rfl,ab⟩);exact IA
theorem Zrc(na nb:Bool)(A B:Option Addr)(n c m d:Nat)(za zb:Int)(w:World)(ha:Wd w na A n c za)(hb:Wd w nb B m d zb) :
    Calls Tryz.prog 121 #[.agg #[.bool na,.slice A n c],.agg #[.bool nb,.slice B m d]] w λe w'=>e=.returned (.tuple #[.int .i64 (Zcr za zb),.int .i64 0])/\Below w.heap.size w w':=by
 have y:=ha.lim;have I:=hb.lim;have o:∀ X Y Z:Obj,Below w.heap.size w (((w.alloc X).alloc Y).alloc Z):=λX Y Z=>(((Qb w.heap.size w).alloc (Qa _) _).alloc Gh _).alloc Gg _
 have hW:∀ X Y t,WL (((w.alloc X).alloc Y).alloc (.cells #[.bool na,.slice A n c,.bool nb,.slice B m d] t)) (some ⟨w.heap.size+1+1,0,none⟩) 2 2 [⟨na,A,n,c,digits za.natAbs⟩,⟨nb,B,m,d,digits zb.natAbs⟩]:=λX Y t=>by
  have:=WL.two (neg:=na) (neg':=nb) ((y.alloc X).alloc Y) ((I.alloc X).alloc Y) t;exact Et
 have hW:=Zb hW;have o:=Zb o;have u:Hid (okW na (digits za.natAbs)=true/\okW nb (digits zb.natAbs)=true):=⟨ha.ok,hb.ok⟩;have J:∀ (fn:Fn) (first cap:Array Value) (w:World),(Instr.makeFunc fn first cap).run Tryz.prog w=.ok (.func fn first cap) w:=λ_ _ _ _=>rfl;have HA:=Zb ha;have HB:=Zb hb;clear ha hb;go_in;go_wp2_with fail;refine(Zdk (hW.out _ _ _) (by have:=u.out;simp[WE.ok,this])).mono ?_;rintro e w1 ⟨rfl,h⟩;obtain⟨U,O⟩:=Zc0 h;have T:w.heap.size+1+1<w1.heap.size:=by have:=h.size;simp at this;omega
 have f:Below w.heap.size w w1:=(o.out _ _ _).trans (h.mono Gg);go_wp2_with fail;refine(to_ok na nb A B n c m d za zb _ (HA.out.below f) (HB.out.below f)).mono ?_;rintro e w2 ⟨rfl,C⟩;go_wp2_with fail
 go_ret2
 exact⟨rfl,Gs f C⟩
def Zki(w:World):Value->List Nat
 | .slice (some ad) n _=>(List.range n).map λk=>match w.cell? (ad.add k)with|some (.int _ x)=>x.toNat|_=>0
 | _=>[]
theorem Lim.mem{w:World}{A:Option Addr}{n c:Nat}{l:List Nat}(h:Lim w A n c l):Zki w (.slice A n c)=l:=by
 rcases A with _|ad
 ·have hn:n=0:=by
    exact Cy
  subst hn;exact(List.eq_nil_of_length_eq_zero h.len).symm
 unfold Zki;apply List.ext_getElem (by simp[h.len]);intro i h1 h2;obtain⟨b,o,e,hc⟩:=h.at_ (k:=i) (by rw[<- h.len];exact h2);injection e with e
 subst e;simp only[List.getElem_map,List.getElem_range,Zg,hc];simp[List.getElem?_eq_getElem h2]
def GcdR(w:World)(t:TypeId)(G:Nat)(xv yv:Value)(wr:World):Prop:=
 ∃ (u v:Nat) (A:Option Addr) (n c:Nat) (B:Option Addr) (m d:Nat),xv=.slice A n c/\yv=.slice B m d/\Lim wr A n c (digits u)/\Lim wr B m d (digits v)/\n<=4096/\m<=4096/\Qg u v=G/\Blk wr (w.heap.size+1+1) t #[.bool false,.slice none 0 0]/\Below w.heap.size w wr
theorem IJ{G:Prop}(h:G:=by
 rcases Nat.eq_zero_or_pos v with h|h;exact h;have:=length_digits_pos.2 h;rw[be.len]at this;omega):G:=h
theorem EE{G:Prop}(h:G:=by
 rintro e w5 ⟨A6,n6,c6,B6,m6,d6,rfl,kh,fS,ao⟩;go_wp2_with fail
 go_roundw
 case rel=>exact⟨v,u%v,_,_,_,_,_,_,rfl,rfl,be.below ao,fS,iE,by have:=Z5 (Nat.le_of_lt (Nat.mod_lt u dC));rw[fS.len,be.len]at this;omega,by rw[<- hg.out,Nat.gcd_comm u v,Nat.gcd_rec v u,Nat.gcd_comm],Zc ao az.out,Gs dG ao⟩
 case measure=>simp only[eO.out,fS.mem,Zi];exact Nat.mod_lt u dC):G:=h
theorem Ch{G:Prop}(h:G:=by
 have:=WL.two (neg:=na) (neg':=nb) (((aR.alloc X).alloc Y).alloc Z) (((aG.alloc X).alloc Y).alloc Z) t;exact Et):G:=h
theorem Zky(na nb:Bool)(A B:Option Addr)(n c m d:Nat)(za zb:Int)(w:World)(ha:Wd w na A n c za)(hb:Wd w nb B m d zb) :
    Calls Tryz.prog 151 #[.agg #[.bool na,.slice A n c],.agg #[.bool nb,.slice B m d]] w (ResW w (Qg za.natAbs zb.natAbs:Nat)):=by
 have aR:=ha.lim;have aG:=hb.lim;have hn:=ha.2.1;have hm:=hb.2.1;have T:∀ X Y Z V:Obj,Below w.heap.size w ((((w.alloc X).alloc Y).alloc Z).alloc V):=λX Y Z V=>((((Qb w.heap.size w).alloc (Qa _) _).alloc Gh _).alloc Gg _).alloc Gg _
 have hW:∀ X Y Z t,WL ((((w.alloc X).alloc Y).alloc Z).alloc (.cells #[.bool na,.slice A n c,.bool nb,.slice B m d] t)) (some ⟨w.heap.size+1+1+1,0,none⟩) 2 2 [⟨na,A,n,c,digits za.natAbs⟩,⟨nb,B,m,d,digits zb.natAbs⟩]:=λX Y Z t=>by
  exact Ch
 have hW:=Zb hW;have T:=Zb T;have J:Hid (okW na (digits za.natAbs)=true/\okW nb (digits zb.natAbs)=true):=⟨ha.ok,hb.ok⟩;clear ha hb;generalize za.natAbs=va at *;generalize zb.natAbs=vb at *;obtain⟨G,hG⟩:=Gz (Qg va vb);rw[hG];replace hG:=Zb hG;go_in;go_wp2_with fail;refine(Zdk (hW.out _ _ _ _) (by have:=J.out;simp[WE.ok,this])).mono ?_;rintro e w1 ⟨rfl,y⟩;obtain⟨a0,b4⟩:=Zc0 y;have b7:w.heap.size+1+1+1<w1.heap.size:=by have:=y.size;simp at this;omega
 have o:Below w.heap.size w w1:=(T.out _ _ _ _).trans (y.mono Gg);have g1:w1.cell? ⟨w.heap.size,1,none⟩=some (.slice A n c):=by simp[a0,go_sem]
 have g2:w1.cell? ⟨w.heap.size+1,1,none⟩=some (.slice B m d):=by simp[a0,go_sem]
 have g7:Blk w1 (w.heap.size+1+1) 39 #[.bool false,.slice none 0 0]:=by
  refine Zc y (Blk.alloc ?_ _);exact Ev
 have C:=aR.below o;have a1:=aG.below o;replace g7:=Zb g7;clear a0 b4;go_wp2_with fail
 go_region_held3 (λw'=>w'.cell? ⟨w.heap.size,1,none⟩=some (.slice A n c)/\w'.cell? ⟨w.heap.size+1,1,none⟩=some (.slice B m d))
  (((try dsimp only);(repeat' apply QZ);all_goals (first|go_keep|(simp[*,go_sem];done))))
  ((go_at_call 181;refine(Zia _ _ _ _ _ (by exact C) Gk).mono ?_;rintro e w2 ⟨v2,rfl,a7,U⟩;obtain⟨A2,c2,a5,a9⟩:=a7.lim;rw[C.len]at a5 a9;subst a5;clear a7;have k1:=Za U g1;have k2:=Za U g2))
 have f:=Zu U;have b2:Below w.heap.size w w2:=Gs o f;have m7:Hid (Blk w2 (w.heap.size+1+1) 39 #[.bool false,.slice none 0 0]):=Zc f g7.out;have a4:=a1.below f;go_wp2_with fail
 go_loopw [7,8] (λxv yv wr=>GcdR w 39 G xv yv wr) (λ_ yv wr=>val (Zki wr yv))
 case atStart=>exact⟨va,vb,_,_,_,_,_,_,rfl,rfl,a9,a4,hn,hm,hG.out,m7.out,b2⟩
 case round =>
  obtain⟨u,v,A5,n5,c5,B5,m5,d5,rfl,rfl,I,be,b6,iE,hg,az,dG⟩:=hrel;replace hg:=Zb hg;replace az:=Zb az;by_cases hm0:0<m5
  ·have dC:0<v:=by rw[<- be.len]at hm0;exact length_digits_pos.1 hm0
   have eO:=Zb be.mem;go_wp2_with fail;refine(Zg8 _ _ _ _ _ _ u v _ I be Gk dC).mono ?_;exact EE
  obtain rfl:m5=0:=Gk
  have dC:v=0:=by
   exact IJ
  subst dC;have b0:Hid (u=G):=by have:=hg.out;rw[QT]at this;exact this
  have g8:=az.out;have g3:=g8.cell 0;have g4:=g8.cell 1;have g5:=g8.frozen 0;have g6:=g8.frozen 1;simp at g3 g4;clear g8;go_wp2_with fail;refine(Zia _ _ _ _ _ I Gk).mono ?_;rintro e w5 ⟨v5,rfl,b1,ao⟩;obtain⟨A6,c6,a8,a3⟩:=b1.lim;rw[I.len]at a8 a3;subst a8;go_wp2_with fail;refine(Zb8 _ _ _ _ _ _ a3).mono ?_;rintro e w6 ⟨a6,a2,A7,n7,c7,O,rfl,b3⟩;have b5:Below w.heap.size w w6:=(Gs dG ao).trans (a6.mono (Qf dG.size ao.size));have m8:=Zc a6 (Zc ao az.out);have m3:=m8.cell 0;have m4:=m8.cell 1;have m5:=m8.frozen 0;have m6:=m8.frozen 1;simp at m3 m4;replace m8:=Zb m8;go_wp2_with fail;have HZ:sg false (val (digits u))=(G:Int):=by rw[Zi,b0.out];rfl
  refine bodyPost_ret (v:=.tuple #[.agg #[.bool a2,.slice A7 n7 c7],.int .i64 O]) (by simp[results,Tryz.results151,go_sem,m3,m4]) rfl ?_;exact ResW.box (HZ▸b3) b5 Gk m8.out
theorem Gcd_bad(na nb:Bool)(A B:Option Addr)(n c m d:Nat)(la lb:List Nat)(w:World)(aR:Lim w A n c la)(aG:Lim w B m d lb)(f:(okW na la && okW nb lb)=false) :
    Calls Tryz.prog 151 #[.agg #[.bool na,.slice A n c],.agg #[.bool nb,.slice B m d]] w (BadW w):=by
 have o:∀ X Y Z V:Obj,Below w.heap.size w ((((w.alloc X).alloc Y).alloc Z).alloc V):=λX Y Z V=>((((Qb w.heap.size w).alloc (Qa _) _).alloc Gh _).alloc Gg _).alloc Gg _
 have hW:∀ X Y Z t,WL ((((w.alloc X).alloc Y).alloc Z).alloc (.cells #[.bool na,.slice A n c,.bool nb,.slice B m d] t)) (some ⟨w.heap.size+1+1+1,0,none⟩) 2 2 [⟨na,A,n,c,la⟩,⟨nb,B,m,d,lb⟩]:=λX Y Z t=>by
  exact Ch
 have hW:=Zb hW;have o:=Zb o;have f:=Zb f;go_in;go_wp2_with fail;refine(Zyd (hW.out _ _ _ _) (by have:=f.out;simpa [WE.ok]using this)).mono ?_;rintro e w1 ⟨rfl,h⟩;obtain⟨u,I⟩:=Zc0 h;have J:w.heap.size+1+1+1<w1.heap.size:=by have:=h.size;simp at this;omega
 have y:Below w.heap.size w w1:=(o.out _ _ _ _).trans (h.mono Gg);go_wp2_with fail;have hg:w1.cell? ⟨w.heap.size+1+1,0,none⟩=some (.bool false):=by simp[u,go_sem]
 have C:w1.cell? ⟨w.heap.size+1+1,1,none⟩=some (.slice none 0 0):=by simp[u,go_sem]
 refine bodyPost_ret (v:=.tuple #[.agg #[.bool false,.slice none 0 0],.int .i64 8]) (by simp[results,Tryz.results151,go_sem,hg,C]) rfl ?_;exact⟨rfl,(y.setCell (p:=⟨w.heap.size+1+1,0,none⟩) Gg _).setCell (p:=⟨w.heap.size+1+1,1,none⟩) Gg _⟩
theorem fdm{z d q r:Int}(h:z=d*q+r)(hr:(0<=r/\r<d) \/ (d<r/\r<=0)):Qi z d=q/\Qr z d=r:=by
 rcases hr with ⟨h1,h2⟩|⟨h1,h2⟩;exact(Int.fdiv_fmod_unique Gk).2 ⟨by omega,h1,h2⟩;exact(Int.fdiv_fmod_unique' Gk).2 ⟨by omega,by omega,h2⟩
theorem Zh8(na nb:Bool)(U V:Nat)(hV:0<V)(h:U%V=0 \/ na=nb):Qi (sg na U) (sg nb V)=sg (na != nb) (U/V:Nat)/\Qr (sg na U) (sg nb V)=sg nb (U%V:Nat):=by
 have h1:=QA U V;have h2:=Qh U hV;generalize U/V=x at *;generalize U%V=y at *;subst h1;have e:((V*x+y:Nat):Int)=(V:Int)*x+y:=by push_cast;rfl
 apply fdm
 ·cases na <;> cases nb <;> simp only[sg,e] <;> simp at h ⊢ <;> grind
 cases na <;> cases nb <;> simp[sg]at h ⊢ <;> omega
theorem Zo4(na nb:Bool)(U V:Nat)(hV:0<V)(hy:0<U%V)(h:na≠nb):Qi (sg na U) (sg nb V)=sg (na != nb) (U/V+1:Nat)/\Qr (sg na U) (sg nb V)=sg nb (V-U%V:Nat):=by
 have h1:=QA U V;have h2:=Qh U hV;generalize U/V=x at *;generalize U%V=y at *;subst h1;have e:((V*x+y:Nat):Int)=(V:Int)*x+y:=by push_cast;rfl
 have e2:((V-y:Nat):Int)=(V:Int)-y:=Gk;apply fdm
 ·cases na <;> cases nb <;> simp only[sg,e,e2] <;> simp at h ⊢ <;> grind
 cases na <;> cases nb <;> simp[sg]at h ⊢ <;> omega
def Zkd(w:World)(za zb:Int)(e:Ending)(w':World):Prop:=
 Below w.heap.size w w'/\∃ nq Aq kq cq nr Ar kr cr,e=.returned (.tuple #[.agg #[.bool nq,.slice Aq kq cq],.agg #[.bool nr,.slice Ar kr cr],.int .i64 0])/\Wd w' nq Aq kq cq (Qi za zb)/\Wd w' nr Ar kr cr (Qr za zb)
theorem IY{G:Prop}(h:G:=by
 rcases Nat.eq_zero_or_pos m2 with h|h;exact h;rw[<- aU.len]at h;have:=length_digits_pos.1 h;have:=hy.out;omega):G:=h
theorem Is{G:Prop}(h:G:=by
 rw[<- aZ];exact Lim.set_box (Lim.set_box (aU.below ao) aF.out (NoLimb.box _ _ _ _) 0 _) (aF.out.set_ 0 _) (NoLimb.box _ _ _ _) 1 _):G:=h
theorem Fp{G:Prop}(h:G:=by
 rw[<- aZ];exact⟨cI.1,cI.2.1,Lim.set_box (Lim.set_box cI.2.2 aF.out (NoLimb.box _ _ _ _) 0 _) (aF.out.set_ 0 _) (NoLimb.box _ _ _ _) 1 _⟩):G:=h
theorem Ez{G:Prop}(h:G:=by
 rcases ff with ⟨-,rfl,gE⟩|⟨bl,-⟩
 case inr=>exact absurd eh Gk
 have r1:=cN.out.cell 0;have r2:=cN.out.cell 1;have r3:=cN.out.frozen 0;have r4:=cN.out.frozen 1;simp at r1 r2;go_wp2_with fail;generalize hw8:(w7.setCell ⟨w.heap.size+1+1+1,0,none⟩ (.bool bG)).setCell ⟨w.heap.size+1+1+1,1,none⟩ (.slice A7 n7 c7)=w8;have de:Blk w8 (w.heap.size+1+1) 39 #[.bool aw,.slice A5 n5 c5]:=by rw[<- hw8];exact(ia.out.far Gf _).far Gf _
 have dL:Blk w8 (w.heap.size+1+1+1) 39 #[.bool bG,.slice A7 n7 c7]:=by rw[<- hw8];exact(cN.out.set_ 0 _).set_ 1 _
 have dM:Below w.heap.size w w8:=by rw[<- hw8];exact(aO.setCell (p:=⟨w.heap.size+1+1+1,0,none⟩) Gf _).setCell (p:=⟨w.heap.size+1+1+1,1,none⟩) Gf _
 have gA:Wd w8 aw A5 n5 c5 ZQ:=by
  rw[<- hw8];have gw:=gu.below az;exact⟨gw.1,gw.2.1,Lim.set_box (Lim.set_box gw.2.2 cN.out (NoLimb.box _ _ _ _) 0 _) (cN.out.set_ 0 _) (NoLimb.box _ _ _ _) 1 _⟩
 have gF:Wd w8 bG A7 n7 c7 ZR:=by
  rw[<- hw8];exact⟨gE.1,gE.2.1,Lim.set_box (Lim.set_box gE.2.2 cN.out (NoLimb.box _ _ _ _) 0 _) (cN.out.set_ 0 _) (NoLimb.box _ _ _ _) 1 _⟩
 have s1:=de.cell 0;have s2:=de.cell 1;have s3:=de.frozen 0;have s4:=de.frozen 1;have s5:=dL.cell 0;have s6:=dL.cell 1;have s7:=dL.frozen 0;have s8:=dL.frozen 1;simp at s1 s2 s5 s6;replace de:=Zb de;replace dL:=Zb dL;clear hw8 r1 r2 r3 r4
 go_region
 go_wp2
 generalize hw9:((((w8.setCell ⟨w.heap.size+1+1,0,none⟩ (.bool aw)).setCell ⟨w.heap.size+1+1,1,none⟩ (.slice A5 n5 c5)).setCell ⟨w.heap.size+1+1+1,0,none⟩ (.bool bG)).setCell ⟨w.heap.size+1+1+1,1,none⟩ (.slice A7 n7 c7)).drew=w9;have b1:=(de.out.set_ 0 (.bool aw)).set_ 1 (.slice A5 n5 c5);have b2:=(dL.out.far (p:=⟨w.heap.size+1+1,0,none⟩) Gf (.bool aw)).far (p:=⟨w.heap.size+1+1,1,none⟩) Gf (.slice A5 n5 c5);have b3:Blk w9 (w.heap.size+1+1) 39 #[.bool aw,.slice A5 n5 c5]:=by rw[<- hw9];exact(b1.far Gf _).far Gf _
 have b4:Blk w9 (w.heap.size+1+1+1) 39 #[.bool bG,.slice A7 n7 c7]:=by rw[<- hw9];exact(b2.set_ 0 _).set_ 1 _
 have ct:Below w.heap.size w w9:=by rw[<- hw9];exact Zf ((((dM.setCell (p:=⟨w.heap.size+1+1,0,none⟩) Gf _).setCell (p:=⟨w.heap.size+1+1,1,none⟩) Gf _).setCell (p:=⟨w.heap.size+1+1+1,0,none⟩) Gf _).setCell (p:=⟨w.heap.size+1+1+1,1,none⟩) Gf _) 1
 have cJ:∀ (A:Option Addr) (n c:Nat) (l:List Nat),Lim w8 A n c l->Lim w9 A n c l:=λA n c l h=>by
  rw[<- hw9];exact Lim.set_box (Lim.set_box (Lim.set_box (Lim.set_box h de.out (NoLimb.box _ _ _ _) 0 _) (de.out.set_ 0 _) (NoLimb.box _ _ _ _) 1 _) b2 (NoLimb.box _ _ _ _) 0 _) (b2.set_ 0 _) (NoLimb.box _ _ _ _) 1 _
 have t1:=b3.cell 0;have t2:=b3.cell 1;have t3:=b4.cell 0;have t4:=b4.cell 1;simp at t1 t2 t3 t4;refine bodyPost_ret (v:=.tuple #[.agg #[.bool aw,.slice A5 n5 c5],.agg #[.bool bG,.slice A7 n7 c7],.int .i64 0]) (by simp[results,Tryz.results184,go_sem,t1,t2,t3,t4]) rfl ?_;exact hfin.out _ _ ⟨ct,_,_,_,_,_,_,_,_,rfl,⟨gA.1,gA.2.1,cJ _ _ _ _ gA.2.2⟩,⟨gF.1,gF.2.1,cJ _ _ _ _ gF.2.2⟩⟩):G:=h
theorem Ca{G:Prop}(h:G:=by
 have:=WL.two (neg:=na) (neg':=nb) ((((aR.alloc X).alloc Y).alloc Z).alloc V) ((((aG.alloc X).alloc Y).alloc Z).alloc V) t;exact Et):G:=h
theorem Cg{G:Prop}(h:G:=by
 clear aZ q1 q2 q3 q4 cI;refine(Zb8 _ _ _ _ _ _ eE).mono ?_;rintro e w7 ⟨az,bG,A7,n7,c7,il,rfl,ff⟩;have aO:Below w.heap.size w w7:=Gs aS az;have ia:Hid (Blk w7 (w.heap.size+1+1) 39 #[.bool aw,.slice A5 n5 c5]):=Zc az gZ.out;have cN:Hid (Blk w7 (w.heap.size+1+1+1) 39 #[.bool false,.slice none 0 0]):=Zc az ic.out;rw[Zi,<- cX.out]at ff;exact Ez):G:=h
theorem Cj{G:Prop}(h:G:=by
 have:=Blk.new (((w.alloc (.cells #[.bool na,.slice A n c] 39)).alloc (.cells #[.bool nb,.slice B m d] 39)).alloc (.cells #[.bool false,.slice none 0 0] 39)) 39 #[.bool false,.slice none 0 0];exact Et):G:=h
theorem Zsr(na nb:Bool)(A B:Option Addr)(n c m d:Nat)(za zb:Int)(w:World)(ha:Wd w na A n c za)(hb:Wd w nb B m d zb)(h0:zb≠0)(hy:za.natAbs%zb.natAbs=0) :
    Calls Tryz.prog 184 #[.agg #[.bool na,.slice A n c],.agg #[.bool nb,.slice B m d]] w (Zkd w za zb):=by
 have aR:=ha.lim;have aG:=hb.lim;have hn:=ha.2.1;have hm:=hb.2.1;have b0:=aG.2.2.1;have d7:=aG.2.1;unfold maxLen at b0;have a0:∀ X Y Z V U:Obj,Below w.heap.size w (((((w.alloc X).alloc Y).alloc Z).alloc V).alloc U):=λX Y Z V U=>(((((Qb w.heap.size w).alloc (Qa _) _).alloc Gh _).alloc Gg _).alloc Gg _).alloc Gg _
 have hW:∀ X Y Z V t,WL (((((w.alloc X).alloc Y).alloc Z).alloc V).alloc (.cells #[.bool na,.slice A n c,.bool nb,.slice B m d] t)) (some ⟨w.heap.size+1+1+1+1,0,none⟩) 2 2 [⟨na,A,n,c,digits za.natAbs⟩,⟨nb,B,m,d,digits zb.natAbs⟩]:=λX Y Z V t=>by
  exact Ca
 have hW:=Zb hW;have a0:=Zb a0;have O:Hid (okW na (digits za.natAbs)=true/\okW nb (digits zb.natAbs)=true):=⟨ha.ok,hb.ok⟩;have T:=ha.sgEq;have a2:=hb.sgEq;rw[Zi]at T a2;have hU:=ha.small;have hV:=hb.small;clear ha hb;have I:0<zb.natAbs:=Gk;have d4:0<m:=by rw[<- aG.len];exact length_digits_pos.2 I
 have c8:((m:Int) == 0)=false:=by simp;omega
 obtain⟨o,cX⟩:=Zh8 na nb za.natAbs zb.natAbs I (Or.inl hy);rw[T,a2]at o cX;clear T a2 h0;generalize za.natAbs=U at *;generalize zb.natAbs=V at *;have a3:(sg (na != nb) (U/V)).natAbs<pw 4096:=by rw[Z8];exact Qk (QJ _ _) hU
 have eh:(sg nb (U%V)).natAbs<pw 4096:=by rw[Z8];exact QS (Qh _ I) hV
 rw[<- o]at a3;rw[<- cX]at eh;have hfin:Hid (∀ (e:Ending) (w':World),(Below w.heap.size w w'/\∃ nq Aq kq cq nr Ar kr cr,e=.returned (.tuple #[.agg #[.bool nq,.slice Aq kq cq],.agg #[.bool nr,.slice Ar kr cr],.int .i64 0])/\Wd w' nq Aq kq cq (Qi za zb)/\Wd w' nr Ar kr cr (Qr za zb))->Zkd w za zb e w'):=λ_ _ h=>h;generalize Qi za zb=ZQ at *;generalize Qr za zb=ZR at *;replace o:=Zb o;replace cX:=Zb cX;replace hy:=Zb hy;go_in;go_wp2_with fail;refine(Zdk (hW.out _ _ _ _ _) (by have:=O.out;simp[WE.ok,this])).mono ?_;rintro e w1 ⟨rfl,y⟩;obtain⟨u,c3⟩:=Zc0 y;have d3:w.heap.size+1+1+1+1<w1.heap.size:=by have:=y.size;simp at this;omega
 have C:Below w.heap.size w w1:=(a0.out _ _ _ _ _).trans (y.mono Gg);have g0:w1.cell? ⟨w.heap.size,0,none⟩=some (.bool na):=by simp[u,go_sem]
 have g1:w1.cell? ⟨w.heap.size,1,none⟩=some (.slice A n c):=by simp[u,go_sem]
 have g2:w1.cell? ⟨w.heap.size+1,0,none⟩=some (.bool nb):=by simp[u,go_sem]
 have g3:w1.cell? ⟨w.heap.size+1,1,none⟩=some (.slice B m d):=by simp[u,go_sem]
 have bq:Hid (Blk w1 (w.heap.size+1+1) 39 #[.bool false,.slice none 0 0]):=by
  refine Zc y (Blk.alloc (Blk.alloc ?_ _) _);exact Ev
 have br:Hid (Blk w1 (w.heap.size+1+1+1) 39 #[.bool false,.slice none 0 0]):=by
  refine Zc y (Blk.alloc ?_ _);exact Cj
 have a4:=aR.below C;have a7:=aG.below C;clear u c3;go_wp2_with fail;refine(Zg8 _ _ _ _ _ _ U V _ a4 a7 Gk I).mono ?_;rintro e w2 ⟨A2,n2,c2,B2,m2,d2,rfl,a8,aU,f⟩;have a6:Below w.heap.size w w2:=Gs C f;have a5:=aU.2.2.1;have c6:=aU.2.1;unfold maxLen at a5;have b9:=Za f g0;have c0:=Za f g1;have c1:=Za f g2;have c4:=Za f g3;have a9:Hid (Blk _ _ _ _):=Zc f bq.out;have b5:Hid (Blk _ _ _ _):=Zc f br.out
 have b6:m2=0:=by
  exact IY
 subst b6;go_wp2_with fail;refine(Zb8 _ _ _ _ _ _ a8).mono ?_;rintro e w5 ⟨ao,aw,A5,n5,c5,a1,rfl,J⟩;have b8:Below w.heap.size w w5:=Gs a6 ao;have c9:=Za ao b9;have d0:=Za ao c0;have d6:=Za ao c1;have d5:=Za ao c4;have aF:Hid (Blk _ _ _ _):=Zc ao a9.out;have b7:Hid (Blk _ _ _ _):=Zc ao b5.out;change ResP w5 (sg (na != nb) _) aw A5 n5 c5 a1 at J;rw[Zi,<- o.out]at J;rcases J with ⟨-,rfl,cI⟩|⟨bl,-⟩
 case inr=>exact absurd a3 Gk
 have q1:=aF.out.cell 0;have q2:=aF.out.cell 1;have q3:=aF.out.frozen 0;have q4:=aF.out.frozen 1;simp at q1 q2;go_wp2_with fail;generalize aZ:(w5.setCell ⟨w.heap.size+1+1,0,none⟩ (.bool aw)).setCell ⟨w.heap.size+1+1,1,none⟩ (.slice A5 n5 c5)=w6;have gZ:Hid (Blk w6 (w.heap.size+1+1) 39 #[.bool aw,.slice A5 n5 c5]):=by rw[<- aZ];exact(aF.out.set_ 0 _).set_ 1 _
 have ic:Hid (Blk w6 (w.heap.size+1+1+1) 39 #[.bool false,.slice none 0 0]):=by rw[<- aZ];exact(b7.out.far Gf _).far Gf _
 have aS:Below w.heap.size w w6:=by rw[<- aZ];exact(b8.setCell (p:=⟨w.heap.size+1+1,0,none⟩) Gf _).setCell (p:=⟨w.heap.size+1+1,1,none⟩) Gf _
 have gu:Wd w6 aw A5 n5 c5 ZQ:=by
  exact Fp
 have eE:Lim w6 B2 0 d2 (digits (U%V)):=by
  exact Is
 exact Cg
theorem CZ{G:Prop}(h:G:=by
 have:=Blk.new (((w.alloc (.cells #[.bool na,.slice A n c] 39)).alloc (.cells #[.bool na,.slice B m d] 39)).alloc (.cells #[.bool false,.slice none 0 0] 39)) 39 #[.bool false,.slice none 0 0];exact Et):G:=h
theorem Ztm(na nb:Bool)(A B:Option Addr)(n c m d:Nat)(za zb:Int)(w:World)(ha:Wd w na A n c za)(hb:Wd w nb B m d zb)(h0:zb≠0)(hy:0<za.natAbs%zb.natAbs)(hs:na=nb) :
    Calls Tryz.prog 184 #[.agg #[.bool na,.slice A n c],.agg #[.bool nb,.slice B m d]] w (Zkd w za zb):=by
 have aR:=ha.lim;have aG:=hb.lim;have hn:=ha.2.1;have hm:=hb.2.1;have b0:=aG.2.2.1;have d9:=aG.2.1;unfold maxLen at b0;have a0:∀ X Y Z V U:Obj,Below w.heap.size w (((((w.alloc X).alloc Y).alloc Z).alloc V).alloc U):=λX Y Z V U=>(((((Qb w.heap.size w).alloc (Qa _) _).alloc Gh _).alloc Gg _).alloc Gg _).alloc Gg _
 have hW:∀ X Y Z V t,WL (((((w.alloc X).alloc Y).alloc Z).alloc V).alloc (.cells #[.bool na,.slice A n c,.bool nb,.slice B m d] t)) (some ⟨w.heap.size+1+1+1+1,0,none⟩) 2 2 [⟨na,A,n,c,digits za.natAbs⟩,⟨nb,B,m,d,digits zb.natAbs⟩]:=λX Y Z V t=>by
  exact Ca
 have hW:=Zb hW;have a0:=Zb a0;have O:Hid (okW na (digits za.natAbs)=true/\okW nb (digits zb.natAbs)=true):=⟨ha.ok,hb.ok⟩;have T:=ha.sgEq;have a1:=hb.sgEq;rw[Zi]at T a1;have hU:=ha.small;have hV:=hb.small;clear ha hb;have I:0<zb.natAbs:=Gk;have d5:0<m:=by rw[<- aG.len];exact length_digits_pos.2 I
 have c9:((m:Int) == 0)=false:=by simp;omega
 obtain⟨o,cX⟩:=Zh8 na nb za.natAbs zb.natAbs I (Or.inr hs);rw[T,a1]at o cX;clear T a1 h0;generalize za.natAbs=U at *;generalize zb.natAbs=V at *;have a2:(sg (na != nb) (U/V)).natAbs<pw 4096:=by rw[Z8];exact Qk (QJ _ _) hU
 have eh:(sg nb (U%V)).natAbs<pw 4096:=by rw[Z8];exact QS (Qh _ I) hV
 rw[<- o]at a2;rw[<- cX]at eh;have hfin:Hid (∀ (e:Ending) (w':World),(Below w.heap.size w w'/\∃ nq Aq kq cq nr Ar kr cr,e=.returned (.tuple #[.agg #[.bool nq,.slice Aq kq cq],.agg #[.bool nr,.slice Ar kr cr],.int .i64 0])/\Wd w' nq Aq kq cq (Qi za zb)/\Wd w' nr Ar kr cr (Qr za zb))->Zkd w za zb e w'):=λ_ _ h=>h;generalize Qi za zb=ZQ at *;generalize Qr za zb=ZR at *;replace o:=Zb o;replace cX:=Zb cX;subst hs;have c4:(na != na)=false:=Gh
 go_in;go_wp2_with fail;refine(Zdk (hW.out _ _ _ _ _) (by have:=O.out;simp[WE.ok,this])).mono ?_;rintro e w1 ⟨rfl,y⟩;obtain⟨u,c3⟩:=Zc0 y;have d4:w.heap.size+1+1+1+1<w1.heap.size:=by have:=y.size;simp at this;omega
 have C:Below w.heap.size w w1:=(a0.out _ _ _ _ _).trans (y.mono Gg);have g0:w1.cell? ⟨w.heap.size,0,none⟩=some (.bool na):=by simp[u,go_sem]
 have g1:w1.cell? ⟨w.heap.size,1,none⟩=some (.slice A n c):=by simp[u,go_sem]
 have g2:w1.cell? ⟨w.heap.size+1,0,none⟩=some (.bool na):=by simp[u,go_sem]
 have g3:w1.cell? ⟨w.heap.size+1,1,none⟩=some (.slice B m d):=by simp[u,go_sem]
 have bq:Hid (Blk w1 (w.heap.size+1+1) 39 #[.bool false,.slice none 0 0]):=by
  refine Zc y (Blk.alloc (Blk.alloc ?_ _) _);exact Ci
 have br:Hid (Blk w1 (w.heap.size+1+1+1) 39 #[.bool false,.slice none 0 0]):=by
  refine Zc y (Blk.alloc ?_ _);exact CZ
 have a4:=aR.below C;have a7:=aG.below C;clear u c3;go_wp2_with fail;refine(Zg8 _ _ _ _ _ _ U V _ a4 a7 Gk I).mono ?_;rintro e w2 ⟨A2,n2,c2,B2,m2,d2,rfl,a8,aU,f⟩;have a6:Below w.heap.size w w2:=Gs C f;have a5:=aU.2.2.1;have c8:=aU.2.1;unfold maxLen at a5;have b8:=Za f g0;have c0:=Za f g1;have c1:=Za f g2;have c6:=Za f g3;have a9:Hid (Blk _ _ _ _):=Zc f bq.out;have b5:Hid (Blk _ _ _ _):=Zc f br.out;have d6:0<m2:=by rw[<- aU.len];exact length_digits_pos.2 hy
 go_wp2_with fail;refine(Zb8 _ _ _ _ _ _ a8).mono ?_;rintro e w5 ⟨ao,aw,A5,n5,c5,b9,rfl,a3⟩;have b7:Below w.heap.size w w5:=Gs a6 ao;have d0:=Za ao b8;have d3:=Za ao c0;have d8:=Za ao c1;have d7:=Za ao c6;have aF:Hid (Blk _ _ _ _):=Zc ao a9.out;have b6:Hid (Blk _ _ _ _):=Zc ao b5.out;have J:=o.out;rw[c4]at J;rw[Zi,<- J]at a3;rcases a3 with ⟨-,rfl,cI⟩|⟨bl,-⟩
 case inr=>exact absurd a2 Gk
 have q1:=aF.out.cell 0;have q2:=aF.out.cell 1;have q3:=aF.out.frozen 0;have q4:=aF.out.frozen 1;simp at q1 q2;go_wp2_with fail;generalize aZ:(w5.setCell ⟨w.heap.size+1+1,0,none⟩ (.bool aw)).setCell ⟨w.heap.size+1+1,1,none⟩ (.slice A5 n5 c5)=w6;have gZ:Hid (Blk w6 (w.heap.size+1+1) 39 #[.bool aw,.slice A5 n5 c5]):=by rw[<- aZ];exact(aF.out.set_ 0 _).set_ 1 _
 have ic:Hid (Blk w6 (w.heap.size+1+1+1) 39 #[.bool false,.slice none 0 0]):=by rw[<- aZ];exact(b6.out.far Gf _).far Gf _
 have aS:Below w.heap.size w w6:=by rw[<- aZ];exact(b7.setCell (p:=⟨w.heap.size+1+1,0,none⟩) Gf _).setCell (p:=⟨w.heap.size+1+1,1,none⟩) Gf _
 have gu:Wd w6 aw A5 n5 c5 ZQ:=by
  exact Fp
 have eE:Lim w6 B2 m2 d2 (digits (U%V)):=by
  exact Is
 exact Cg
theorem FN{G:Prop}(h:G:=by
 rw[Z8];have h1:=Nat.div_add_mod U V;have h2:=Nat.mod_lt U bX;rcases Nat.lt_or_ge 1 V with h|h
 ·have:U/V+U/V<=V*(U/V):=by rw[<- Nat.two_mul];exact Nat.mul_le_mul_right _ h
  omega
 omega):G:=h
theorem Zqm(na nb:Bool)(A B:Option Addr)(n c m d:Nat)(za zb:Int)(w:World)(ha:Wd w na A n c za)(hb:Wd w nb B m d zb)(h0:zb≠0)(hy:0<za.natAbs%zb.natAbs)(hs:na≠nb) :
    Calls Tryz.prog 184 #[.agg #[.bool na,.slice A n c],.agg #[.bool nb,.slice B m d]] w (Zkd w za zb):=by
 have aR:=ha.lim;have aG:=hb.lim;have hn:=ha.2.1;have hm:=hb.2.1;have g6:=aG.2.2.1;have i5:=aG.2.1;unfold maxLen at g6;have b0:∀ X Y Z V U:Obj,Below w.heap.size w (((((w.alloc X).alloc Y).alloc Z).alloc V).alloc U):=λX Y Z V U=>(((((Qb w.heap.size w).alloc (Qa _) _).alloc Gh _).alloc Gg _).alloc Gg _).alloc Gg _
 have hW:∀ X Y Z V t,WL (((((w.alloc X).alloc Y).alloc Z).alloc V).alloc (.cells #[.bool na,.slice A n c,.bool nb,.slice B m d] t)) (some ⟨w.heap.size+1+1+1+1,0,none⟩) 2 2 [⟨na,A,n,c,digits za.natAbs⟩,⟨nb,B,m,d,digits zb.natAbs⟩]:=λX Y Z V t=>by
  exact Ca
 have hW:=Zb hW;have b0:=Zb b0;have a4:Hid (okW na (digits za.natAbs)=true/\okW nb (digits zb.natAbs)=true):=⟨ha.ok,hb.ok⟩;have a9:=ha.sgEq;have a5:=hb.sgEq;rw[Zi]at a9 a5;have hU:=ha.small;have hV:=hb.small;clear ha hb;have bX:0<zb.natAbs:=Gk;have i6:0<m:=by rw[<- aG.len];exact length_digits_pos.2 bX
 have i1:((m:Int) == 0)=false:=by simp;omega
 obtain⟨C,J⟩:=Zo4 na nb za.natAbs zb.natAbs bX hy hs;rw[a9,a5]at C J;clear a9 a5 h0;generalize za.natAbs=U at *;generalize zb.natAbs=V at *
 have b6:(sg (na != nb) (U/V+1)).natAbs<pw 4096:=by
  exact FN
 have eh:(sg nb (V-U%V)).natAbs<pw 4096:=by rw[Z8];omega
 rw[<- C]at b6;rw[<- J]at eh;have hfin:Hid (∀ (e:Ending) (w':World),(Below w.heap.size w w'/\∃ nq Aq kq cq nr Ar kr cr,e=.returned (.tuple #[.agg #[.bool nq,.slice Aq kq cq],.agg #[.bool nr,.slice Ar kr cr],.int .i64 0])/\Wd w' nq Aq kq cq (Qi za zb)/\Wd w' nr Ar kr cr (Qr za zb))->Zkd w za zb e w'):=λ_ _ h=>h;generalize Qi za zb=ZQ at *;generalize Qr za zb=ZR at *;replace C:=Zb C;replace J:=Zb J;have I:(na != nb)=true:=by simpa using hs
 have j0:(na == nb)=false:=by simpa using hs
 replace I:=Zb I;go_in;go_wp2_with fail;refine(Zdk (hW.out _ _ _ _ _) (by have:=a4.out;simp[WE.ok,this])).mono ?_;rintro e w1 ⟨rfl,O⟩;obtain⟨a0,h8⟩:=Zc0 O;have i9:w.heap.size+1+1+1+1<w1.heap.size:=by have:=O.size;simp at this;omega
 have a1:Below w.heap.size w w1:=(b0.out _ _ _ _ _).trans (O.mono Gg);have g0:w1.cell? ⟨w.heap.size,0,none⟩=some (.bool na):=by simp[a0,go_sem]
 have g1:w1.cell? ⟨w.heap.size,1,none⟩=some (.slice A n c):=by simp[a0,go_sem]
 have g2:w1.cell? ⟨w.heap.size+1,0,none⟩=some (.bool nb):=by simp[a0,go_sem]
 have g3:w1.cell? ⟨w.heap.size+1,1,none⟩=some (.slice B m d):=by simp[a0,go_sem]
 have bq:Hid (Blk w1 (w.heap.size+1+1) 39 #[.bool false,.slice none 0 0]):=by
  refine Zc O (Blk.alloc (Blk.alloc ?_ _) _);exact Ev
 have br:Hid (Blk w1 (w.heap.size+1+1+1) 39 #[.bool false,.slice none 0 0]):=by
  refine Zc O (Blk.alloc ?_ _);exact Cj
 have d0:=aR.below a1;have c6:=aG.below a1;clear a0 h8;go_wp2_with fail;refine(Zg8 _ _ _ _ _ _ U V _ d0 c6 Gk bX).mono ?_;rintro e w2 ⟨A2,n2,c2,B2,m2,d2,rfl,c9,T,y⟩;have a7:Below w.heap.size w w2:=Gs a1 y;have d4:=T.2.2.1;have i0:=T.2.1;unfold maxLen at d4;have g8:=Za y g0;have h6:=Za y g1;have h7:=Za y g2;have e6:=Za y g3;have h4:Hid (Blk _ _ _ _):=Zc y bq.out;have e9:Hid (Blk _ _ _ _):=Zc y br.out;have i7:0<m2:=by rw[<- T.len];exact length_digits_pos.2 hy
 have c8:m2<=m:=by have:=Z5 (Qw (Qh U bX));rw[T.len,aG.len]at this;exact this
 have h9:n2<=n:=by have:=Z5 (QJ U V);rw[c9.len,aR.len]at this;exact this
 have b8:∀ t,Lim (w2.alloc (.cells #[limb 1] t)) (some ⟨w2.heap.size,0,none⟩) 1 1 [1]:=λt=>by
  have:=Lim.of_blk (l:=[1]) (Qy w2 t (Zz [1])) (Lt32.cons Gj Lt32.nil) (by simp[maxLen]);exact this
 have f7:=Zb b8;clear b8;go_wp2_with fail;refine(Zs2 _ _ _ _ _ _ _ _ _ (c9.alloc _) (f7.out _) Gk Gk).mono ?_;rintro e w3 ⟨A3,n3,c3,l3,rfl,e1,d3,b9⟩;have f:Below w2.heap.size w2 w3:=((Qb w2.heap.size w2).alloc (Qa _) _).trans (b9.mono Gh);have b5:Below w.heap.size w w3:=Gs a7 f;have a8:=d3.2;replace a8:=Zb a8;clear d3;have g9:=Za f g8;have h5:=Za f h6;have e3:=Za f h7;have h3:=Za f e6;have f3:Hid (Blk _ _ _ _):=Zc f h4.out;have f0:Hid (Blk _ _ _ _):=Zc f e9.out;have d5:=(aG.below a7).below f;have d9:=T.below f;have a3:val (digits (U%V))<=val (digits V):=by rw[Zi,Zi];exact Qw (Qh U bX)
 go_wp2_with fail;refine(Zkt _ _ _ _ _ _ _ _ _ d5 d9 c8 a3 Gk).mono ?_;rintro e w4 ⟨A4,n4,c4,l4,rfl,e0,c0,u⟩;have b7:Below w.heap.size w w4:=Gs b5 u;have a6:=c0.2;replace a6:=Zb a6;clear c0 a3;have d7:=e1.below u;have e8:=Za u g9;have e7:=Za u h5;have f6:=Za u e3;have f9:=Za u h3;have e4:Hid (Blk _ _ _ _):=Zc u f3.out;have e5:Hid (Blk _ _ _ _):=Zc u f0.out;go_wp2_with fail;refine(Zb8 _ _ _ _ _ _ d7).mono ?_;rintro e w5 ⟨o,aw,A5,n5,c5,f8,rfl,d6⟩;have g7:Below w.heap.size w w5:=Gs b7 o;have i2:=Za o e8;have i3:=Za o e7;have i4:=Za o f6;have i8:=Za o f9;have aF:Hid (Blk _ _ _ _):=Zc o e4.out;have e2:Hid (Blk _ _ _ _):=Zc o e5.out;have f4:val l4=V-U%V:=by have:=a6.out;rw[Zi,Zi]at this;omega
 have a2:=C.out;rw[I.out]at a2;rw[a8.out,Zi,show val [1]=1 from rfl,<- a2]at d6;rcases d6 with ⟨-,rfl,cI⟩|⟨bl,-⟩
 case inr=>exact absurd b6 Gk
 have q1:=aF.out.cell 0;have q2:=aF.out.cell 1;have q3:=aF.out.frozen 0;have q4:=aF.out.frozen 1;simp at q1 q2;go_wp2_with fail;generalize aZ:(w5.setCell ⟨w.heap.size+1+1,0,none⟩ (.bool aw)).setCell ⟨w.heap.size+1+1,1,none⟩ (.slice A5 n5 c5)=w6;have g5:Hid (Blk w6 (w.heap.size+1+1) 39 #[.bool aw,.slice A5 n5 c5]):=by rw[<- aZ];exact(aF.out.set_ 0 _).set_ 1 _
 have g4:Hid (Blk w6 (w.heap.size+1+1+1) 39 #[.bool false,.slice none 0 0]):=by rw[<- aZ];exact(e2.out.far Gf _).far Gf _
 have c1:Below w.heap.size w w6:=by rw[<- aZ];exact(g7.setCell (p:=⟨w.heap.size+1+1,0,none⟩) Gf _).setCell (p:=⟨w.heap.size+1+1,1,none⟩) Gf _
 have gu:Wd w6 aw A5 n5 c5 ZQ:=by
  exact Fp
 have d8:Lim w6 A4 n4 c4 l4:=by
  rw[<- aZ];exact Lim.set_box (Lim.set_box (e0.below o) aF.out (NoLimb.box _ _ _ _) 0 _) (aF.out.set_ 0 _) (NoLimb.box _ _ _ _) 1 _
 clear aZ q1 q2 q3 q4 cI;refine(Zb8 _ _ _ _ _ _ d8).mono ?_;rintro e w7 ⟨az,bG,A7,n7,c7,f5,rfl,ff⟩;have aO:Below w.heap.size w w7:=Gs c1 az;have ia:Hid (Blk w7 (w.heap.size+1+1) 39 #[.bool aw,.slice A5 n5 c5]):=Zc az g5.out;have cN:Hid (Blk w7 (w.heap.size+1+1+1) 39 #[.bool false,.slice none 0 0]):=Zc az g4.out;rw[f4,<- J.out]at ff;exact Ez
theorem Zga(na nb:Bool)(A B:Option Addr)(n c m d:Nat)(za zb:Int)(w:World)(ha:Wd w na A n c za)(hb:Wd w nb B m d zb)(h0:zb≠0) :
    Calls Tryz.prog 184 #[.agg #[.bool na,.slice A n c],.agg #[.bool nb,.slice B m d]] w (Zkd w za zb):=by
 rcases Qd (za.natAbs%zb.natAbs)with hy|hy;exact Zsr na nb A B n c m d za zb w ha hb h0 hy;by_cases hs:na=nb;exact Ztm na nb A B n c m d za zb w ha hb h0 hy hs;exact Zqm na nb A B n c m d za zb w ha hb h0 hy hs
theorem Zd0(neg:Bool)(A:Option Addr)(n c:Nat)(w:World) :
    Calls Tryz.prog 132 #[.agg #[.bool neg,.slice A n c],.int .i64 0] w λe w'=>e=.returned (.agg #[.bool neg,.slice A n c])/\Below w.heap.size w w':=by
 go_in;go_wp2_with fail;refine bodyPost_ret (v:=.agg #[.bool neg,.slice A n c]) (by simp[results,Tryz.results132,go_sem]) rfl ?_;exact⟨rfl,by go_grown⟩
theorem Zka(neg:Bool)(A:Option Addr)(n c:Nat)(w:World)(hn:n<=1000000000)(b:Bool)(hb:((n:Int) == 0)=b) :
    Calls Tryz.prog 152 #[.agg #[.bool neg,.slice A n c]] w λe w'=>e=.returned (.bool b)/\Below w.heap.size w w':=by
 go_in;go_wp2_with fail;go_ret;exact⟨rfl,by go_grown⟩
theorem one_ok(w:World):Calls Tryz.prog 154 #[] w (NumW w 1):=by
 have f:∀ X:Obj,Below w.heap.size w (w.alloc X):=λX=>(Qb w.heap.size w).alloc (Qa _) _;have f:=Zb f;go_in;go_wp2_with fail;refine(Zbz 1 _ Gk Gk).mono ?_;rintro e w1 ⟨h,o,A1,n1,c1,rfl,y⟩;have u:Below w.heap.size w w1:=(f.out _).trans (h.mono Gh);have m8:=Zc h (Qy w 39 #[.bool false,.slice none 0 0]);have m3:=m8.cell 0;have m4:=m8.cell 1;have m5:=m8.frozen 0;have m6:=m8.frozen 1;simp at m3 m4;replace m8:=Zb m8;go_wp2_with fail;refine bodyPost_ret (v:=.agg #[.bool o,.slice A1 n1 c1]) (by simp[results,Tryz.results154,go_sem,m3,m4]) rfl ?_;exact NumW.box y u (Qa _) m8.out
theorem Zz0(na nb:Bool)(A B:Option Addr)(n c m d:Nat)(za zb:Int)(w:World)(ha:Wd w na A n c za)(hb:Wd w nb B m d zb)(b:Bool)(he:decide (za=zb)=b) :
    Calls Tryz.prog 153 #[.agg #[.bool na,.slice A n c],.agg #[.bool nb,.slice B m d]] w λe w'=>e=.returned (.bool b)/\Below w.heap.size w w':=by
 have u:((Zcr za zb) == 0)=b:=by
  rw[<- he];unfold Zcr;by_cases h1:za<zb
  ·rw[Gx h1];have:za≠zb:=Gk
   simp[this]
  rw[Gw h1];by_cases h2:zb<za
  ·rw[Gx h2];have:za≠zb:=Gk
   simp[this]
  rw[Gw h2];have:za=zb:=Gk;simp[this]
 have HA:=Zb ha;have HB:=Zb hb;clear ha hb he;have h:∀ X Y:Obj,Below w.heap.size w ((w.alloc X).alloc Y):=λX Y=>((Qb w.heap.size w).alloc (Qa _) _).alloc Gh _;have h:=Zb h;obtain⟨cz,f⟩:=Gz (Zcr za zb);rw[f]at u
 have HC:Hid (∀ W:World,Wd W na A n c za->Wd W nb B m d zb->Calls Tryz.prog 121 #[.agg #[.bool na,.slice A n c],.agg #[.bool nb,.slice B m d]] W λe w'=>e=.returned (.tuple #[.int .i64 cz,.int .i64 0])/\Below W.heap.size W w'):=λW h1 h2=>by
  have:=Zrc na nb A B n c m d za zb W h1 h2;rw[f]at this;exact this
 clear f;go_in;go_wp2_with fail;refine(HC.out _ ((HA.out.alloc _).alloc _) ((HB.out.alloc _).alloc _)).mono ?_;rintro e w1 ⟨rfl,o⟩;go_wp2_with fail;go_ret;exact⟨rfl,(h.out _ _).trans (o.mono Gg)⟩
def Low(num den:Int):Prop:=0<den/\Qg num.natAbs den.natAbs=1
theorem Zdu{a b:Nat}{p:Nat}(ha:a<p)(hb:b<p):Qg a b<p:=by
 rcases Qd a with rfl|h;rw[Nat.gcd_zero_left];exact hb;exact Qk (Nat.le_of_dvd h (QW a b)) ha
theorem Zmb(na:Bool)(A B:Option Addr)(n c m d:Nat)(za zb:Int)(w:World)(ha:Wd w na A n c za)(hb:Wd w false B m d zb)(hp:0<zb)(b:Bool)(hg:decide ((Nat.gcd za.natAbs zb.natAbs:Int)=1)=b) :
    Calls Tryz.prog 110 #[.agg #[.bool na,.slice A n c,.bool false,.slice B m d]] w λe w'=>e=.returned (.int .i64 (if b then 0 else 8))/\Below w.heap.size w w':=by
 have a8:0<m:=by rw[<- hb.lim.len];exact length_digits_pos.2 Gk
 have a0:((m:Int) == 0)=false:=by simp;omega
 have hm:=hb.2.1;have a4:=Zdu ha.small hb.small;obtain⟨G,hG⟩:=Gz (Qg za.natAbs zb.natAbs);rw[hG]at hg a4;have HA:=Zb ha;have HB:=Zb hb
 have HGc:Hid (∀ W:World,Wd W na A n c za->Wd W false B m d zb->Calls Tryz.prog 151 #[.agg #[.bool na,.slice A n c],.agg #[.bool false,.slice B m d]] W (ResW W (G:Int))):=λW h1 h2=>by
  have:=Zky na false A B n c m d za zb W h1 h2;rw[hG]at this;exact this
 clear ha hb hG;have C:∀ X:Obj,Below w.heap.size w (w.alloc X):=λX=>(Qb w.heap.size w).alloc (Qa _) _;have C:=Zb C;go_in;go_wp2_with fail;refine(HGc.out _ (HA.out.alloc _) (HB.out.alloc _)).mono ?_;rintro e w1 ⟨I,ng,Ag,kg,cg,code,rfl,hR⟩;rcases hR with ⟨-,rfl,T⟩|⟨V,-⟩
 case inr=>exact absurd V Gk
 obtain⟨J,a5⟩:=Zc0 I;have a7:w.heap.size<w1.heap.size:=by have:=I.size;simp at this;omega
 have O:Below w.heap.size w w1:=(C.out _).trans (I.mono Gh);have g2:w1.cell? ⟨w.heap.size,2,none⟩=some (.bool false):=by simp[J,go_sem]
 have g3:w1.cell? ⟨w.heap.size,3,none⟩=some (.slice B m d):=by simp[J,go_sem]
 have y:Below w1.heap.size w1 (w1.alloc (.cells #[.bool ng,.slice Ag kg cg] 39)):=(Qb _ _).alloc (Qa _) _;have bg:=Zb (Qy w1 39 #[.bool ng,.slice Ag kg cg]);have a2:=Za y g2;have a3:=Za y g3;have Y:=Zb (T.alloc (.cells #[.bool ng,.slice Ag kg cg] 39));have u:=Zb (Gs O y);clear J a5 g2 g3 T;go_wp2_with fail;generalize w1.alloc _=w2 at *;have p0:=bg.out.cell 0;have p1:=bg.out.cell 1;simp at p0 p1
 go_region_held3 (λw'=>w'.cell? ⟨w.heap.size,2,none⟩=some (.bool false)/\w'.cell? ⟨w.heap.size,3,none⟩=some (.slice B m d)/\w'.cell? ⟨w1.heap.size,0,none⟩=some (.bool ng)/\w'.cell? ⟨w1.heap.size,1,none⟩=some (.slice Ag kg cg))
  (((try dsimp only);(repeat' apply QZ);all_goals (first|go_keep|(simp[*,go_sem];done))))
  (first
   | (go_at_call 152;refine(Zka _ _ _ _ _ Gk _ a0).mono ?_;rintro e w3 ⟨rfl,a6⟩;have f:=Zu a6;have k2:=Za f a2;have k3:=Za f a3;have k0:=Za f p0;have k1:=Za f p1)
   | (go_at_call 154;refine(one_ok _).mono ?_;rintro e w4 ⟨h,n4,A4,m4,c4,rfl,a1⟩;have j2:=Za h k2;have j3:=Za h k3;have j0:=Za h k0;have j1:=Za h k1)
   | (go_at_call 153;refine(Zz0 _ _ _ _ _ _ _ _ _ _ _ ((Y.out.below f).below h) a1 b hg).mono ?_;rintro e w5 ⟨rfl,o⟩;have i2:=Za o j2;have i3:=Za o j3;have i0:=Za o j0;have i1:=Za o j1))
 have U:Hid (Below w.heap.size w w5):=((Gs u.out f).trans (h.mono (Qf u.out.size f.size))).trans (o.mono (Qf u.out.size (Qf f.size h.size)));cases b
 ·go_wp2_with fail
  go_ret;exact⟨rfl,U.out⟩
 go_wp2_with fail;go_ret;exact⟨rfl,U.out⟩
def Zgh(a b:Int):Int:=if b<0 then -(Qg a.natAbs b.natAbs:Nat)else (Qg a.natAbs b.natAbs:Nat)
theorem Zl0{a b:Int}(h:b≠0):Zgh a b≠0:=by
 have:0<Qg a.natAbs b.natAbs:=QF _ Gk;unfold Zgh;split <;> omega
theorem Zkf(a b:Int):((Qg a.natAbs b.natAbs:Nat):Int) ∣ a:=by
 rw[<- Int.dvd_natAbs];exact Int.ofNat_dvd.2 (QW _ _)
theorem Zod(a b:Int):((Qg a.natAbs b.natAbs:Nat):Int) ∣ b:=by
 rw[<- Int.dvd_natAbs];exact Int.ofNat_dvd.2 (Nat.gcd_dvd_right _ _)
theorem Zyn(a b:Int):Zgh a b ∣ a:=by
 unfold Zgh;split;exact Int.neg_dvd.2 (Zkf a b);exact Zkf a b
theorem Zyq(a b:Int):Zgh a b ∣ b:=by
 unfold Zgh;split;exact Int.neg_dvd.2 (Zod a b);exact Zod a b
theorem Ztk(a b:Int):Int.gcd b a=Qg a.natAbs b.natAbs:=by unfold Int.gcd;exact Nat.gcd_comm _ _
theorem Zke{a b:Int}(h:b≠0):Qi a (Zgh a b)=(QO a b).num:=by
 rw[QI (Zyn a b),Rat.num_divInt,Ztk];unfold Zgh;obtain⟨k,hk⟩:=Zkf a b
 have hg:((Qg a.natAbs b.natAbs:Nat):Int)≠0:=by
  have:0<Qg a.natAbs b.natAbs:=QF _ Gk;omega
 split
 ·rename_i hb
  rw[Int.ediv_neg,Int.sign_eq_neg_one_of_neg hb,show (-1:Int)*a=-a by omega,QR (Zkf a b)]
 rw[Int.sign_eq_one_of_pos Gk,Int.one_mul]
theorem Zjw{a b:Int}(h:b≠0):Qi b (Zgh a b)=((QO a b).den:Nat):=by
 rw[QI (Zyq a b),Rat.den_divInt,Ztk,Gw h];unfold Zgh
 split
 ·rename_i hb
  rw[Int.ediv_neg,<- QR (Zod a b),show -b=((b.natAbs:Nat):Int) by omega,QX]
 rw[QX,show ((b.natAbs:Nat):Int)=b by omega]
theorem Zwi(r:Rat):Low r.num r.den:=⟨by have:=r.den_pos;omega,by simpa using r.reduced⟩
theorem rat_low{a b:Int}(h:Low a b):(QO a b).num=a/\((QO a b).den:Int)=b:=by
 have h0:b≠0:=by have:=h.1;omega
 have hG:Zgh a b=1:=by unfold Zgh;rw[Gw (by have:=h.1;omega),h.2];rfl
 rw[<- Zke h0,<- Zjw h0,hG];simp
def Fr(w:World)(na:Bool)(A:Option Addr)(n c:Nat)(nb:Bool)(B:Option Addr)(m d:Nat)(r:Rat):Prop:=Wd w na A n c r.num/\Wd w nb B m d (r.den:Nat)
theorem Fr.below{w w':World}{na:Bool}{A:Option Addr}{n c:Nat}{nb:Bool}{B:Option Addr}{m d:Nat}{r:Rat}(h:Fr w na A n c nb B m d r)(hb:Below w.heap.size w w'):Fr w' na A n c nb B m d r:=⟨h.1.below hb,h.2.below hb⟩
theorem Fr.neg{w:World}{na:Bool}{A:Option Addr}{n c:Nat}{nb:Bool}{B:Option Addr}{m d:Nat}{r:Rat}(h:Fr w na A n c nb B m d r):nb=false:=by
 have:=h.2.1;rw[this];simp
def Zdt(w:World)(r:Rat)(e:Ending)(w':World):Prop:=
 Below w.heap.size w w'/\∃ na A n c nb B m d,e=.returned (.agg #[.bool na,.slice A n c,.bool nb,.slice B m d])/\Fr w' na A n c nb B m d r
def Zfi(w:World)(r:Rat)(e:Ending)(w':World):Prop:=
 Below w.heap.size w w'/\∃ na A n c nb B m d,e=.returned (.tuple #[.agg #[.bool na,.slice A n c,.bool nb,.slice B m d],.int .i64 0])/\Fr w' na A n c nb B m d r
def Zwd(w W:World)(g:Nat):Prop:=
 (∀ na A n c z,Wd w na A n c z->Wd W na A n c z)/\(∀ g' t' cs',g'≠g->Blk w g' t' cs'->Blk W g' t' cs')/\W.heap.size=w.heap.size
theorem NoLimb.box4(b:Bool)(A:Option Addr)(n c:Nat)(b':Bool)(A':Option Addr)(n' c':Nat):NoLimb #[.bool b,.slice A n c,.bool b',.slice A' n' c']:=λi x=>by
 rcases i with _|_|_|_|i <;> simp
theorem Zau{t:TypeId}{B:Nat}{w0 w:World}{g:Nat}{b0:Bool}{A0:Option Addr}{n0 c0:Nat}(neg:Bool)(A:Option Addr)(n c:Nat)(hB:Below B w0 w)(hs:B<=g)(hb:Blk w g t #[.bool b0,.slice A0 n0 c0]) :
    ∃ W,(w.setCell ⟨g,0,none⟩ (.bool neg)).setCell ⟨g,1,none⟩ (.slice A n c)=W/\Below B w0 W/\Blk W g t #[.bool neg,.slice A n c]/\Zwd w W g:=by
 have e:Blk (w.setCell ⟨g,0,none⟩ (.bool neg)) g t #[.bool neg,.slice A0 n0 c0]:=hb.set_ 0 (.bool neg);have f:Blk ((w.setCell ⟨g,0,none⟩ (.bool neg)).setCell ⟨g,1,none⟩ (.slice A n c)) g t #[.bool neg,.slice A n c]:=e.set_ 1 (.slice A n c);refine⟨_,rfl,(hB.setCell (p:=⟨g,0,none⟩) hs _).setCell (p:=⟨g,1,none⟩) hs _,f,λna A' n' c' z hW=>⟨hW.1,hW.2.1,(hW.2.2.set_box hb (NoLimb.box _ _ _ _) _ _).set_box e (NoLimb.box _ _ _ _) _ _⟩,λg' t' cs' hg h=>(h.far hg _).far hg _,by simp⟩
theorem Zaa{t:TypeId}{B:Nat}{w0 w:World}{g:Nat}{a0:Bool}{A0:Option Addr}{n0 c0:Nat}{b0:Bool}{B0:Option Addr}{m0 d0:Nat}(na:Bool)(A:Option Addr)(n c:Nat)(nb:Bool)(B':Option Addr)(m d:Nat)(hB:Below B w0 w)(hs:B<=g)(hb:Blk w g t #[.bool a0,.slice A0 n0 c0,.bool b0,.slice B0 m0 d0]) :
    ∃ W,(((w.setCell ⟨g,0,none⟩ (.bool na)).setCell ⟨g,1,none⟩ (.slice A n c)).setCell ⟨g,2,none⟩ (.bool nb)).setCell ⟨g,3,none⟩ (.slice B' m d)=W/\Below B w0 W/\Blk W g t #[.bool na,.slice A n c,.bool nb,.slice B' m d]/\Zwd w W g:=by
 have o:Blk (w.setCell ⟨g,0,none⟩ (.bool na)) g t #[.bool na,.slice A0 n0 c0,.bool b0,.slice B0 m0 d0]:=hb.set_ 0 (.bool na);have e:Blk ((w.setCell ⟨g,0,none⟩ (.bool na)).setCell ⟨g,1,none⟩ (.slice A n c)) g t #[.bool na,.slice A n c,.bool b0,.slice B0 m0 d0]:=o.set_ 1 (.slice A n c);have f:Blk (((w.setCell ⟨g,0,none⟩ (.bool na)).setCell ⟨g,1,none⟩ (.slice A n c)).setCell ⟨g,2,none⟩ (.bool nb)) g t #[.bool na,.slice A n c,.bool nb,.slice B0 m0 d0]:=e.set_ 2 (.bool nb);have u:Blk ((((w.setCell ⟨g,0,none⟩ (.bool na)).setCell ⟨g,1,none⟩ (.slice A n c)).setCell ⟨g,2,none⟩ (.bool nb)).setCell ⟨g,3,none⟩ (.slice B' m d)) g t #[.bool na,.slice A n c,.bool nb,.slice B' m d]:=f.set_ 3 (.slice B' m d);have hl:=NoLimb.box4;refine⟨_,rfl,(((hB.setCell (p:=⟨g,0,none⟩) hs _).setCell (p:=⟨g,1,none⟩) hs _).setCell (p:=⟨g,2,none⟩) hs _).setCell (p:=⟨g,3,none⟩) hs _,u,λna A' n' c' z hW=>⟨hW.1,hW.2.1,?_⟩,λg' t' cs' hg h=>(((h.far hg _).far hg _).far hg _).far hg _,by simp⟩;exact(((hW.2.2.set_box hb (hl _ _ _ _ _ _ _ _) _ _).set_box o (hl _ _ _ _ _ _ _ _) _ _).set_box e (hl _ _ _ _ _ _ _ _) _ _).set_box f (hl _ _ _ _ _ _ _ _) _ _
theorem Blk.two{w:World}{g:Nat}{t:TypeId}{x y:Value}(h:Blk w g t #[x,y]):w.cell? ⟨g,0,none⟩=some x/\w.cell? ⟨g,1,none⟩=some y/\w.frozen? ⟨g,0,none⟩=false/\w.frozen? ⟨g,1,none⟩=false:=
 ⟨h.cell 0,h.cell 1,h.frozen 0,h.frozen 1⟩
theorem Blk.four{w:World}{g:Nat}{t:TypeId}{x y z v:Value}(h:Blk w g t #[x,y,z,v]):w.cell? ⟨g,0,none⟩=some x/\w.cell? ⟨g,1,none⟩=some y/\w.cell? ⟨g,2,none⟩=some z/\w.cell? ⟨g,3,none⟩=some v/\w.frozen? ⟨g,0,none⟩=false/\w.frozen? ⟨g,1,none⟩=false/\w.frozen? ⟨g,2,none⟩=false/\w.frozen? ⟨g,3,none⟩=false:=
 ⟨h.cell 0,h.cell 1,h.cell 2,h.cell 3,h.frozen 0,h.frozen 1,h.frozen 2,h.frozen 3⟩
theorem Zs{B:Nat}{w0 w:World}(t:TypeId)(cs:Array Value)(hB:Below B w0 w)(hs:B<=w.heap.size) :
    ∃ W,w.alloc (.cells cs t)=W/\Below B w0 W/\Blk W w.heap.size t cs/\(∀ na A n c z,Wd w na A n c z->Wd W na A n c z)/\(∀ g' t' cs',Blk w g' t' cs'->Blk W g' t' cs')/\W.heap.size=w.heap.size+1:=
 ⟨_,rfl,hB.alloc hs _,Qy _ _ _,λ_ _ _ _ _ h=>h.alloc _,λ_ _ _ h=>h.alloc _,by simp⟩
theorem Zdb(w:World)(t0:TypeId)(c0:Array Value)(t1:TypeId)(c1:Array Value) :
    ∃ W,(w.alloc (.cells c0 t0)).alloc (.cells c1 t1)=W/\Below w.heap.size w W/\(Blk W w.heap.size t0 c0/\Blk W (w.heap.size+1) t1 c1)/\W.heap.size=w.heap.size+1+1:=by
 refine⟨_,rfl,((Qb w.heap.size w).alloc (Qa _) _).alloc Gh _,⟨(Qy _ _ _).alloc _,?_⟩,by simp⟩;have:=Qy (w.alloc (.cells c0 t0)) t1 c1;exact Et
theorem Zcd(w:World)(t0:TypeId)(c0:Array Value)(t1:TypeId)(c1:Array Value)(t2:TypeId)(c2:Array Value) :
    ∃ W,((w.alloc (.cells c0 t0)).alloc (.cells c1 t1)).alloc (.cells c2 t2)=W/\Below w.heap.size w W/\(Blk W w.heap.size t0 c0/\Blk W (w.heap.size+1) t1 c1/\Blk W (w.heap.size+1+1) t2 c2)/\W.heap.size=w.heap.size+1+1+1:=by
 obtain⟨W,hW,h1,h2,h3⟩:=Zdb w t0 c0 t1 c1;refine⟨_,rfl,?_,⟨?_,?_,?_⟩,by rw[hW];simp[h3]⟩ <;> rw[hW];exact h1.alloc Gk _;exact h2.1.alloc _;exact h2.2.alloc _;rw[<- h3];exact Qy _ _ _
theorem Zfs(w:World)(t0:TypeId)(c0:Array Value)(t1:TypeId)(c1:Array Value)(t2:TypeId)(c2:Array Value)(t3:TypeId)(c3:Array Value) :
    ∃ W,(((w.alloc (.cells c0 t0)).alloc (.cells c1 t1)).alloc (.cells c2 t2)).alloc (.cells c3 t3)=W/\Below w.heap.size w W/\(Blk W w.heap.size t0 c0/\Blk W (w.heap.size+1) t1 c1/\Blk W (w.heap.size+1+1) t2 c2/\Blk W (w.heap.size+1+1+1) t3 c3)/\W.heap.size=w.heap.size+1+1+1+1:=by
 obtain⟨W,hW,h1,h2,h3⟩:=Zcd w t0 c0 t1 c1 t2 c2;refine⟨_,rfl,?_,⟨?_,?_,?_,?_⟩,by rw[hW];simp[h3]⟩ <;> rw[hW];exact h1.alloc Gk _;exact h2.1.alloc _;exact h2.2.1.alloc _;exact h2.2.2.alloc _;rw[<- h3];exact Qy _ _ _
theorem Zao{t:TypeId}{B:Nat}{w0 w:World}{g:Nat}{x0:Int}(x:Int)(hB:Below B w0 w)(hs:B<=g)(hb:Blk w g t #[.int .i64 x0]) :
    ∃ W,w.setCell ⟨g,0,none⟩ (.int .i64 x)=W/\Below B w0 W/\Blk W g t #[.int .i64 x]/\Zwd w W g:=by
 have e:Blk (w.setCell ⟨g,0,none⟩ (.int .i64 x)) g t #[.int .i64 x]:=hb.set_ 0 (.int .i64 x);have hl:NoLimb #[.int .i64 x0]:=λi x=>by rcases i with _|i <;> simp
 exact⟨_,rfl,hB.setCell (p:=⟨g,0,none⟩) hs _,e,λna A' n' c' z hW=>⟨hW.1,hW.2.1,hW.2.2.set_box hb hl _ _⟩,λg' t' cs' hg h=>h.far hg _,by simp⟩
theorem Zpu(A:Option Addr)(n c s:Nat)(l:List Nat)(w:World)(h:Lim w A n c l)(hs:s<32)(hn9:n<=1000000) :
    Calls Tryz.prog 141 #[.slice A n c,.int .u64 s] w (λe w'=>∃ v o,e=.returned v/\OwnL 106 w' w.heap.size v o/\o.length=n+1/\val o=2^s*val l/\Below w.heap.size w w'):=by
 obtain⟨i0,hi,I,O,T⟩:=info_parts Zdj;have a2:=h.2.1;have C:=h.2.2.1;unfold maxLen at C;go_in;go_wp2_with fail
 go_loopw [7,6,5] (λiv cv ov wr=>∃ i cy:Nat,i<=n/\iv=.int .i64 i/\cv=.int .u64 cy/\LeftP w s l i cy ov wr) (λiv _ _ _=>n-(intOf iv).toNat)
 case atStart=>exact⟨0,0,QK _,rfl,rfl,[],OwnL.nil _ _ _,rfl,Qm Gk,by simp[val],Qb _ _⟩
 case round =>
  obtain⟨i,cy,a1,rfl,rfl,o,ai,aN,u,hI,hB⟩:=hrel;replace aN:=Zb aN;replace hI:=Zb hI;by_cases hi':i<n
  ·obtain⟨b,of,rfl,y⟩:=(h.below hB).at_ hi'
   have hx:=h.lt.get i;obtain⟨p,hp⟩:=Gz (2^s);have V:p<=2147483648:=by rw[<- hp];exact QP Gk (show s<=31 by omega)
   have Y:p*l[i]?.getD 0<=2147483648*4294967295:=QN V Gk
   have U:IntKind.u64.wrap ((cy:Int)+IntKind.u64.wrap (((l[i]?.getD 0:Nat):Int)*2^s))=((cy+p*l[i]?.getD 0:Nat):Int):=by
    have e1:(((l[i]?.getD 0:Nat):Int)*2^s)=((p*l[i]?.getD 0:Nat):Int):=by rw[<- hp];push_cast;rw[Int.mul_comm]
    rw[hp]at u;rw[e1,QG,QG];omega
   rw[hp]at u;replace hp:=Zb hp;have fF:Hid (val (l.take (i+1))=val (l.take i)+pw i*l[i]?.getD 0):=Zac l i;obtain⟨x,f⟩:=Gz (l[i]?.getD 0);rw[f]at y hx Y U fF;replace f:=Zb f;obtain⟨t,ht⟩:=Gz (cy+p*x)
   have iP:t/4294967296<p:=by
    rw[Qc Gk,<- ht];have:p*x+p<=p*4294967296:=by rw[<- Nat.mul_succ];exact Qt _ Gk
    omega
   have a0:t<18446744073709551616:=Gk;rw[ht]at U;replace ht:=Zb ht;go_wp2_with (go_loud (at_builtin;refine Zx _ rfl (.tmp 23) (.tmp 26) 37 rfl w.heap.size 106 i0 _ 1 4 Tryz.underlying37 hi I O T rfl Gk _ i (o.map limb) rfl (by have:=aN.out;subst this;exact ai.1.alloc _) _ _ 1 1 _ rfl (Zbx _ _ _) (by simp[Value.oneCell']) (by simp only[maxLen];omega) Gk Gb ?_;intro v1 w1 aE cU J));exact Eg
  obtain rfl:i=n:=Gk;have ar:=Zb h.len;have eM:cy<4294967296:=Nat.lt_of_lt_of_le u (show 2^s<=4294967296 from Qf (QP Gj (show s<=32 by omega)) Gj);have C:((cy:Int))%4294967296=(cy:Int):=Gk;clear h;go_wp2_with (go_loud (at_builtin;refine Zx _ rfl (.tmp 30) (.tmp 33) 37 rfl w.heap.size 106 i0 _ 1 4 Tryz.underlying37 hi I O T rfl Gk _ i (o.map limb) rfl (by have:=aN.out;subst this;exact ai.1.alloc _) _ _ 1 1 _ rfl (Zbx _ _ _) (by simp[Value.oneCell']) (by simp only[maxLen];omega) Gk Gb ?_;intro v1 w1 aE cU J));exact Fw
def RShortR(w:World)(g n D:Nat)(l:List Nat)(k r:Nat)(wr:World):Prop:=
 ∃ o:List Nat,Blk wr g 106 (Zz o)/\o.length=n/\Lt32 o/\r<D/\val (o.drop k)*D+r=val (l.drop k)/\Below w.heap.size w wr
theorem Zu6(A:Option Addr)(n c d:Nat)(l:List Nat)(w:World)(hl:Lim w A n c l)(hd0:0<d)(hd:d<4294967296)(hn9:n<=1000000) :
    Calls Tryz.prog 140 #[.slice A n c,limb d] w (Zqw w (val l) d):=by
 obtain⟨i0,hi,a3,a4,a8⟩:=info_parts Zdj;have b6:=Zgs (P:=Tryz.prog) 37 106 Tryz.underlying37 hi a3 a4 a8 (n:Int) n rfl Gk;have b5:=hl.2.1;have a1:=hl.2.2.1;unfold maxLen at a1;have u:=Zb hl.len;have b4:((d:Int) == 0)=false:=by simp;omega
 have b2:(d:Int)≠0:=Gk
 go_in;go_wp2_with fail
 go_loopw [8,7] (λiv rv wr=>∃ k r:Nat,k<=n/\iv=.int .i64 ((k:Int)-1)/\rv=.int .u64 r/\RShortR w w.heap.size n d l k r wr) (λiv _ _=>(intOf iv+1).toNat)
 case atStart=>exact⟨n,0,Qa _,rfl,rfl,QM n 0,Qy _ _ _,by simp,Lt32.replicate _,hd0,by rw[Ql Gh,Ql (by rw[u.out];exact Qa _)];simp[val],(Qb _ _).alloc (Qa _) _⟩
 case round =>
  obtain⟨k,r,hk,rfl,rfl,o,h,f,T,hr,hI,hB⟩:=hrel;replace f:=Zb f;replace hI:=Zb hI;rcases k with _|k
  ·have O:=hI.out
   rw[QY,QY]at O;obtain⟨e1,e2⟩:=Zp5 (U:=val l) (V:=d) (q:=val o) (R:=r) Gk hr;have a0:=Lim.of_blk h T (by rw[f.out];unfold maxLen;omega);rw[f.out]at a0;have dy:r<4294967296:=Gk;have b7:((r:Int))%4294967296=(r:Int):=Gk;replace e1:=Zb e1;replace e2:=Zb e2;clear O;go_wp2_with fail;refine(Zd8 _ _ _ _ _ a0 Gk).mono ?_;rintro e w2 ⟨A2,n2,c2,l2,rfl,b0,rfl,Y⟩
   have C:∀ t,Lim (w2.alloc (.cells #[limb r] t)) (some ⟨w2.heap.size,0,none⟩) 1 1 [r]:=λt=>by
    exact IQ
   replace C:=Zb C;go_wp2_with fail;refine(Zd8 _ _ _ _ _ (C.out _) Gk).mono ?_;rintro e w3 ⟨A3,n3,c3,l3,rfl,a6,I,b1⟩;have y:Below w2.heap.size w2 w3:=((Qb w2.heap.size w2).alloc (Qa _) _).trans (b1.mono Gh);replace I:=Zb I;go_wp2_with fail
   go_ret2
   refine⟨_,_,_,_,_,_,rfl,by rw[<- e1.out];exact b0.below y,?_,(Gs hB Y).trans (y.mono (Qf hB.size Y.size))⟩;have:=I.out;rw[show val [r]=r by simp[val]]at this;rw[<- e2.out,<- this];exact a6
  obtain⟨b,of,rfl,a7⟩:=(hl.below hB).at_ (k:=k) Gk;have hx:=hl.lt.get k;have a9:=h.cell k;rw[Zas o k (by rw[f.out];omega)]at a9;have b3:=h.frozen k;have a5:r*4294967296+l[k]?.getD 0<18446744073709551616:=Gk;go_wp2_with fail;obtain⟨x,J⟩:=Gz (l[k]?.getD 0);rw[J]at hx a5 ⊢
  have e1:((r:Int)*4294967296+(x:Int))/(d:Int)%4294967296=(((r*4294967296+x)/d:Nat):Int):=by
   have:(r*4294967296+x)/d<4294967296:=by
    rw[Qc hd0];exact Il
   rw[show ((r:Int)*4294967296+(x:Int))/(d:Int)=(((r*4294967296+x)/d:Nat):Int) by simp];generalize (r*4294967296+x)/d=z at *;omega
  have e2:((r:Int)*4294967296+(x:Int))%(d:Int)=(((r*4294967296+x)%d:Nat):Int):=Gh
  have hq:(r*4294967296+x)/d<4294967296:=by
   rw[Qc hd0];exact Il
  have a2:(r*4294967296+x)%d<d:=Qh _ hd0;have he:(r*4294967296+x)/d*d+(r*4294967296+x)%d=r*4294967296+x:=by rw[Qv];exact QA _ _
  rw[e1,e2];generalize (r*4294967296+x)/d=q at *;generalize (r*4294967296+x)%d=r' at *;refine⟨⟨k,r',by omega,rfl,rfl,o.set k q,by rw[<- Zb2];exact h.set_ _ _,by rw[Qe];exact f.out,T.set _ hq,a2,?_,hB.setCell (p:=⟨w.heap.size,k,none⟩) (Qa _) _⟩,by simp[intOf] <;> omega⟩;exact Zo1 (by rw[f.out];omega) (by rw[u.out];omega) hI.out (by rw[J];exact he)
theorem Zo2{l l0 v:List Nat}{i c s c':Nat}(hi:i<l.length)(hI:val (l.take i)+pw i*c=val (l0.take i)+val (v.take i))(he:s+4294967296*c'=c+l0[i]?.getD 0+v[i]?.getD 0) :
    val ((l.set i s).take (i+1))+pw (i+1)*c'=val (l0.take (i+1))+val (v.take (i+1)):=by
 rw[Zac,Zac v,Zac l0,List.take_set_of_le (Qa i),List.getElem?_set_self hi,Za7];simp only[Option.getD_some];have e:pw i*s+pw i*(4294967296*c')=pw i*c+pw i*l0[i]?.getD 0+pw i*v[i]?.getD 0:=by rw[<- QC,<- QC,<- QC,he]
 have e2:4294967296*pw i*c'=pw i*(4294967296*c'):=by rw[Qv 4294967296,Qj]
 rw[e2];omega
theorem Zh2{q v:Nat}(h:0<q):(q-1)*v+v=q*v:=by
 obtain⟨k,rfl⟩:∃ k,q=k+1:=⟨q-1,by omega⟩;rw[Nat.add_sub_cancel,Nat.succ_mul]
theorem Zxh{q v1 v2 r u2 top:Nat}(h1:q*v1+r=top)(h2:r*4294967296+u2<q*v2):top*4294967296+u2<q*(v1*4294967296+v2):=by
 have e:q*(v1*4294967296+v2)=q*v1*4294967296+q*v2:=by rw[QC,Qj]
 rw[e,<- h1,Nat.add_mul,Nat.add_assoc];exact Nat.add_lt_add_left h2 _
def WinF(w:World)(g off n:Nat)(w':World):Prop:=
 w.grownBy w' (some g)/\(∀ j,(j<off \/ off+n<=j)->w'.cell? ⟨g,j,none⟩=w.cell? ⟨g,j,none⟩)/\(∀ j,w'.frozen? ⟨g,j,none⟩=w.frozen? ⟨g,j,none⟩)
theorem WinF.refl(w:World)(g off n:Nat):WinF w g off n w:=⟨World.grownBy.refl w _,λ_ _=>rfl,λ_=>rfl⟩
theorem WinF.set_{w w':World}{g off n i:Nat}(h:WinF w g off n w')(hi:i<n)(u:Value):WinF w g off n (w'.setCell ⟨g,off+i,none⟩ u):=
 ⟨Zh4 h.1,λj hj=>(Qu _ _ _ _ Gf).trans (h.2.1 j hj),λj=>(World.frozen?_setCell _ _ _ _).trans (h.2.2 j)⟩
theorem WinF.drewN{w w':World}{g off n:Nat}(h:WinF w g off n w')(k:Nat):WinF w g off n (w'.drewN k):=⟨⟨h.1.os,h.1.tape,h.1.output,h.1.size,h.1.block⟩,h.2.1,h.2.2⟩
theorem Zu4{w w':World}{g k:Nat}{u l:List Nat}(h:MutL w g 0 u)(hk:k+l.length<=u.length)(hf:WinF w g k l.length w')(hl:MutL w' g k l):MutL w' g 0 (splice u k l):=λj hj=>by
 rw[Zen hk]at hj;rw[Qo];by_cases hin:k<=j/\j<k+l.length
 ·obtain⟨i,rfl⟩:∃ i,j=k+i:=⟨j-k,by omega⟩
  rw[Zoy hk Gk];exact hl i Gk
 rw[Zns hk Gk];have:=h j hj;rw[Qo]at this;exact⟨(hf.2.1 j Gk).trans this.1,(hf.2.2 j).trans this.2⟩
def Z0v(w:World)(g off:Nat)(u v:List Nat)(e:Ending)(w':World):Prop:=
 ∃ l,e=.returned (limb (val u/val v))/\l.length=u.length/\Lt32 l/\val l=val u%val v/\MutL w' g off l/\WinF w g off u.length w'
def DSub(w:World)(g off n q:Nat)(u v:List Nat)(i cy b:Nat)(wr:World):Prop:=
 ∃ l,MutL wr g off l/\l.length=n+1/\Lt32 l/\(∀ j,i<=j->l[j]?.getD 0=u[j]?.getD 0)/\val (l.take i)+q*val (v.take i)=val (u.take i)+pw i*(cy+b)/\WinF w g off (n+1) wr
def DAdd(w:World)(g off n:Nat)(l0 v:List Nat)(i c:Nat)(wr:World):Prop:=
 ∃ l,MutL wr g off l/\l.length=n+1/\Lt32 l/\(∀ j,i<=j->l[j]?.getD 0=l0[j]?.getD 0)/\val (l.take i)+pw i*c=val (l0.take i)+val (v.take i)/\WinF w g off (n+1) wr
theorem Io{G:Prop}(h:G:=by
 go_wp2_with fail
 go_quiet (fail)
 go_wp2_with fail
 go_meet
 exact⟨q,rfl,gj,by omega,_,(by first|rfl|exact World.drewN_drewN _ _ _)⟩):G:=h
theorem CJ{G:Prop}(h:G:=by
 go_wp2_with fail
 go_quiet (fail)
 go_wp2_with fail;exact gH.out _ _ ((by first|rfl|exact World.drewN_drewN _ _ _))):G:=h
theorem Eu{G:Prop}(h:G:=by
 have iL:0<q:=Gk
 have jO:r+v1<18446744073709551616:=by
  have h1:=fE.out;have h2:(q-1)*v1+v1=q*v1:=Zh2 iL;omega
 have eQ:Hid ((q-1)*v1+(r+v1)=top):=by
  have h1:=fE.out;have h2:(q-1)*v1+v1=q*v1:=Zh2 iL;unfold Hid;omega
 have jQ:IntKind.u64.wrap ((r:Int)+(v1:Int))=((r+v1:Nat):Int):=by rw[IntKind.wrap_u64];omega
 obtain⟨r1,gC⟩:=Gz (r+v1);rw[gC]at jQ jO eQ;replace gC:=Zb gC;have fa:((q:Int)-1)=((q-1:Nat):Int):=Gk;replace fa:=Zb fa;by_cases hbrk:4294967296<=r1/\q-1<4294967296
 ·obtain⟨k1,k2⟩:=hbrk
  have d7:decide (4294967296<=r1)=true:=by simpa using k1
  have d8:decide ((4294967296:Int)<=(r1:Int))=true:=by simp;omega
  have d9:decide ((q:Int)-1<4294967296)=true:=by simp;omega
  go_wp2_with fail
  go_quiet (fail)
  go_wp2_with fail
  go_meet
  exact⟨q-1,by rw[fa.out],by omega,k2,_,(by first|rfl|exact World.drewN_drewN _ _ _)⟩
 have gH:Hid (∀ (k:Nat) (wx:World),wx=w.drewN k->((∃ q_1 r_1:Nat,Value.int IntKind.u64 ((q:Int)-1)=Value.int IntKind.u64 (q_1:Int)/\Value.int IntKind.u64 (r1:Int)=Value.int IntKind.u64 (r_1:Int)/\Q<=q_1/\q_1<8589934592/\Hid (q_1*v1+r_1=top)/\∃ m,wx=w.drewN m)/\(intOf (Value.int IntKind.u64 ((q:Int)-1))).toNat<(intOf (Value.int IntKind.u64 (q:Int))).toNat)):=
   λk wx hk=>⟨⟨q-1,r1,by rw[fa.out],rfl,by omega,by omega,eQ,k,hk⟩,by simp[intOf];omega⟩
 by_cases k1:4294967296<=r1
 ·have k2:¬ q-1<4294967296:=λh=>hbrk ⟨k1,h⟩
  have d7:decide (4294967296<=r1)=true:=by simpa using k1
  have d8:decide ((4294967296:Int)<=(r1:Int))=true:=by simp;omega
  have d9:decide ((q:Int)-1<4294967296)=false:=by simp;omega
  exact CJ
 have d7:decide (4294967296<=r1)=false:=by simpa using k1
 have d8:decide ((4294967296:Int)<=(r1:Int))=false:=by simp;omega
 exact CJ):G:=h
theorem Zxy(g off n c d:Nat)(bv ov:Nat)(u v:List Nat)(w:World)(hu:MutL w g off u)(a4:u.length=n+1)(hut:Lt32 u)(hnc:n+1<=c)(hcm:c<=maxLen)(hn9:n<=1000000)(hn0:2<=n)
    (hv:Lim w (some ⟨bv,ov,none⟩) n d v) (hne:bv≠g) (hlt:val u<4294967296*val v) (htop:2147483648<=v[n-1]?.getD 0) :
    Calls Tryz.prog 142 #[.slice (some ⟨g,off,none⟩) (n+1) c,.slice (some ⟨bv,ov,none⟩) n d] w (Z0v w g off u v):=by
 unfold maxLen at hcm;have h9:=hv.2.1;have f5:=hv.2.2.1;unfold maxLen at f5;have a3:=hv.len
 have hV:0<val v:=by
  rcases Qd (val v)with h0|h0;rw[h0]at hlt;omega;exact h0
 have e5:=top2_le a3 Gk;have c5:=top3_lt a4 Gk hut;have i1:=hv.cell (k:=n-1) Gk;have g5:=hv.cell (k:=n-2) Gk;have h6:=(hu n Gk).1;have h4:=(hu (n-1) Gk).1;have g7:=(hu (n-2) Gk).1;have g2:=hv.lt.get (n-1);have g9:=hv.lt.get (n-2);have g6:=hut.get n;have h7:=hut.get (n-1);have g0:=hut.get (n-2);have e7:=Zqg a3 Gk;have c4:=Zwh a4 Gk hut;generalize e9:v[n-1]?.getD 0=v1 at *;generalize c7:v[n-2]?.getD 0=v2 at *;generalize e6:u[n]?.getD 0=u0 at *;generalize c8:u[n-1]?.getD 0=u1 at *;generalize d0:u[n-2]?.getD 0=u2 at *;obtain⟨Q,hQ⟩:=Gz (val u/val v);have f8:Q<4294967296:=by rw[<- hQ,Qc hV];exact hlt
 obtain⟨top,a1⟩:=Gz (u0*4294967296+u1);rw[a1]at c5 c4;have c0:top<18446744073709551616:=Gk;have a0:Q<=top/v1:=by rw[<- hQ];exact Zpq Gk e7 c4
 have c6:top/v1<8589934592:=by rw[Qc Gk];omega
 have b1:top/v1*v1+top%v1=top:=by rw[Qv];exact QA _ _
 have a2:∀ q r,q*v1+r=top->r*4294967296+u2<q*v2->Q<q:=λq r h1 h2=>by
  rw[<- hQ];exact Zp6 e5 c5 (Zxh h1 h2)
 replace a2:=Zb a2;replace b1:=Zb b1;replace a1:=Zb a1;replace hQ:=Zb hQ;replace a4:=Zb a4;replace a3:=Zb a3;replace e9:=Zb e9;replace c7:=Zb c7;replace e6:=Zb e6;replace c8:=Zb c8;replace d0:=Zb d0;clear e5 c5 e7 c4;go_in;go_wp2_with fail
 go_quiet (fail)
 go_wp2_with fail
 go_quiet (fail)
 go_upto_block 0 with fail
 have ecast:((u0:Int)*4294967296+(u1:Int))=(top:Int):=by have:=a1.out;omega
 rw[ecast,show (top:Int)/(v1:Int)=((top/v1:Nat):Int) from rfl,show (top:Int)%(v1:Int)=((top%v1:Nat):Int) from rfl];replace ecast:=Zb ecast;generalize top/v1=q0 at *;generalize top%v1=r0 at *;have h5:WinF w g off (n+1) (w.drewN 0):=WinF.refl _ _ _ _
 go_cut [7,8] (λqv _ wx=>∃ q:Nat,qv=.int .u64 q/\Q<=q/\q<4294967296/\∃ m,wx=w.drewN m)
 case first =>
  go_wp2_with fail
  go_loopw [7,8] (λqv rv wr=>∃ q r:Nat,qv=.int .u64 q/\rv=.int .u64 r/\Q<=q/\q<8589934592/\Hid (q*v1+r=top)/\∃ m,wr=w.drewN m) (λqv _ _=>(intOf qv).toNat)
  case atStart=>exact⟨q0,r0,rfl,rfl,a0,c6,b1,_,World.drewN_drewN _ _ _⟩
  case round =>
   obtain⟨q,r,rfl,rfl,gj,b3,fE,m0,rfl⟩:=hrel;clear a0 c6 b1;have h8:r<18446744073709551616:=by have:=fE.out;omega
   by_cases hb32:4294967296<=q
   ·have d1:decide (4294967296<=q)=true:=by simpa using hb32
    have d2:decide ((4294967296:Int)<=(q:Int))=true:=by simp;omega
    exact Eu
   have d1:decide (4294967296<=q)=false:=by simpa using hb32
   have d2:decide ((4294967296:Int)<=(q:Int))=false:=by simp;omega
   by_cases hr32:r<4294967296
   ·have d3:decide (r<4294967296)=true:=by simpa using hr32
    have d4:decide ((r:Int)<(4294967296:Int))=true:=by simp;omega
    obtain⟨p2,b0⟩:=Gz (q*v2);have f9:p2<18446744073709551616:=by rw[<- b0];exact Qk (QN (show q<=4294967295 by omega) (show v2<=4294967295 by omega)) Gj
    have hw:IntKind.u64.wrap ((q:Int)*(v2:Int))=(p2:Int):=by
     rw[show (q:Int)*(v2:Int)=(p2:Int) by rw[<- b0];push_cast;rfl,QG];omega
    replace b0:=Zb b0;by_cases ht5:r*4294967296+u2<p2
    ·have d5:decide (r*4294967296+u2<p2)=true:=Gv ht5
     have d6:decide ((r:Int)*4294967296+(u2:Int)<(p2:Int))=true:=Gv Gk;have i0:Q<q:=a2.out q r fE.out (by rw[b0.out];exact ht5);exact Eu
    have d5:decide (r*4294967296+u2<p2)=false:=Gu ht5;have d6:decide ((r:Int)*4294967296+(u2:Int)<(p2:Int))=false:=Gu Gk;exact Io
   have d3:decide (r<4294967296)=false:=by simpa using hr32
   have d4:decide ((r:Int)<(4294967296:Int))=false:=by simp;omega
   exact Io
 case rest =>
  obtain⟨q,rfl,gj,b3,m0,rfl⟩:=hcut;clear a0 c6 b1 a2;go_wp2_with fail;have f4:MutL (w.drewN m0) g off u:=hu;have b4:∀ (wr:World),WinF w g off (n+1) wr->Lim wr (some ⟨bv,ov,none⟩) n d v:=λwr h=>⟨hv.1,hv.2.1,hv.2.2.1,hv.2.2.2.1,λhn=>⟨bv,ov,rfl,λk hk=>(QQ (a:=⟨bv,ov+k,none⟩) (h.1.block bv (Zo (hv.cell (k:=0) Gk)) (λe=>hne (by injection e)))).trans (hv.cell hk)⟩⟩;replace b4:=Zb b4
  go_loopw [11,10,9] (λiv cv bw wr=>∃ i cy b:Nat,i<=n+1/\iv=.int .i64 i/\cy<4294967296/\cv=.int .u64 cy/\b<=1/\bw=.int .i64 b/\DSub w g off n q u v i cy b wr/\(i=n+1->cy=0)) (λiv _ _ _=>n+1-(intOf iv).toNat)
  case atStart=>exact⟨0,0,0,by omega,rfl,by omega,rfl,by omega,rfl,⟨u,f4,a4.out,hut,λ_ _=>rfl,by simp[val],(WinF.refl _ _ _ _).drewN m0⟩,by omega⟩
  case round =>
   obtain⟨i,cy,b,f6,rfl,c1,rfl,f0,rfl,⟨l,hl,C,J,f,hI,hF⟩,c9⟩:=hrel;replace C:=Zb C;replace f:=Zb f;replace hI:=Zb hI;have hy:=hut.get i;rcases QU i n with hi|hi|hi
   ·obtain⟨Y,c3⟩:=hl i (by rw[C.out];omega)
    rw[f.out i (Qa _)]at Y;have c2:=(b4.out _ hF).cell (k:=i) hi;have hx:=hv.lt.get i
    have o:∀ lo c' d' b':Nat,lo+4294967296*c'=cy+q*v[i]?.getD 0->d'+lo+b=u[i]?.getD 0+4294967296*b'->val ((l.set i d').take (i+1))+q*val (v.take (i+1))=val (u.take (i+1))+pw (i+1)*(c'+b'):=
     λlo c' d' b' h1 h2=>Zj7 (by rw[C.out];omega) hI.out h1 h2
    replace o:=Zb o;obtain⟨x,a6⟩:=Gz (v[i]?.getD 0);obtain⟨y,O⟩:=Gz (u[i]?.getD 0);rw[a6]at c2 hx o;rw[O]at Y hy o;replace a6:=Zb a6;replace O:=Zb O;have hw:=Zs6 c1 b3 hx
    have c0:cy+q*x<18446744073709551616:=by
     have h:q*x<=4294967295*4294967295:=QN Gk Gk;omega
    obtain⟨T,hT⟩:=Gz (cy+q*x);rw[hT]at hw c0 o
    have b7:bits BinOp.and IntKind.u64 (T:Int) 4294967295=((T%4294967296:Nat):Int):=by
     rw[show (4294967295:Int)=((4294967295:Nat):Int) from rfl,u64_and_nat _ _ c0 Gk,show 4294967295=2^32-1 by rfl,QB]
    have e0:T/4294967296<4294967296:=Gk;replace hT:=Zb hT;have f3:T%4294967296<4294967296:=Qh _ Gj;obtain⟨lo,a8⟩:=Gz (T%4294967296);rw[a8]at b7 f3;replace a8:=Zb a8;have hh:Hid (lo+4294967296*(T/4294967296)=T):=by unfold Hid;rw[<- a8.out];exact Nat.mod_add_div _ _
    by_cases hneg:(y:Int)-lo-b<0
    ·have d1:decide ((y:Int)-lo-b<0)=true:=Gv hneg
     go_wp2_with fail;obtain⟨d',a5⟩:∃ d':Nat,(y:Int)-lo-b+4294967296=(d':Int):=⟨((y:Int)-lo-b+4294967296).toNat,by omega⟩;rw[a5];have V:d'<4294967296:=Gk;have hfin:=o.out lo (T/4294967296) d' 1 hh.out Gk;refine⟨⟨i+1,(T/4294967296),1,by omega,by go_num,e0,rfl,by omega,rfl,⟨l.set i d',hl.set_ (by rw[C.out];omega) d',by rw[Qe];exact C.out,J.set i V,λj hj=>by rw[getD_set_ne _ Gk];exact f.out j Gk,hfin,hF.set_ Gk _⟩,by omega⟩,by simp[intOf] <;> omega⟩
    have d1:decide ((y:Int)-lo-b<0)=false:=Gu hneg;go_wp2_with fail;obtain⟨d',a5⟩:∃ d':Nat,(y:Int)-lo-b=(d':Int):=⟨((y:Int)-lo-b).toNat,by omega⟩;rw[a5];have V:d'<4294967296:=Gk;have hfin:=o.out lo (T/4294967296) d' 0 hh.out Gk;refine⟨⟨i+1,(T/4294967296),0,by omega,by go_num,e0,rfl,by omega,rfl,⟨l.set i d',hl.set_ (by rw[C.out];omega) d',by rw[Qe];exact C.out,J.set i V,λj hj=>by rw[getD_set_ne _ Gk];exact f.out j Gk,hfin,hF.set_ Gk _⟩,by omega⟩,by simp[intOf] <;> omega⟩
   ·subst hi
    obtain⟨Y,c3⟩:=hl i (by rw[C.out];omega);rw[f.out i (Qa _)]at Y
    have o:∀ d' b':Nat,d'+cy+b=u[i]?.getD 0+4294967296*b'->val ((l.set i d').take (i+1))+q*val (v.take (i+1))=val (u.take (i+1))+pw (i+1)*(0+b'):=
     λd' b' h2=>Zj7 (by rw[C.out];omega) hI.out (by rw[getD_none (by rw[a3.out];exact Qa _),Qn,Qn,QD]) h2
    replace o:=Zb o;obtain⟨y,O⟩:=Gz (u[i]?.getD 0);rw[O]at Y hy o;replace O:=Zb O
    have b7:bits BinOp.and IntKind.u64 (cy:Int) 4294967295=(cy:Int):=by
     rw[show (4294967295:Int)=((4294967295:Nat):Int) from rfl,u64_and_nat _ _ Gk Gk,show 4294967295=2^32-1 by rfl,QB,Qx c1]
    have g8:(cy:Int)/4294967296=0:=Gk;by_cases hneg:(y:Int)-cy-b<0
    ·have d1:decide ((y:Int)-cy-b<0)=true:=Gv hneg
     go_wp2_with fail;obtain⟨d',a5⟩:∃ d':Nat,(y:Int)-cy-b+4294967296=(d':Int):=⟨((y:Int)-cy-b+4294967296).toNat,by omega⟩;rw[a5];have V:d'<4294967296:=Gk;have hfin:=o.out d' 1  Gk;refine⟨⟨i+1,0,1,by omega,by go_num,(by omega),by go_num,by omega,rfl,⟨l.set i d',hl.set_ (by rw[C.out];omega) d',by rw[Qe];exact C.out,J.set i V,λj hj=>by rw[getD_set_ne _ Gk];exact f.out j Gk,hfin,hF.set_ Gk _⟩,by omega⟩,by simp[intOf] <;> omega⟩
    have d1:decide ((y:Int)-cy-b<0)=false:=Gu hneg;go_wp2_with fail;obtain⟨d',a5⟩:∃ d':Nat,(y:Int)-cy-b=(d':Int):=⟨((y:Int)-cy-b).toNat,by omega⟩;rw[a5];have V:d'<4294967296:=Gk;have hfin:=o.out d' 0  Gk;refine⟨⟨i+1,0,0,by omega,by go_num,(by omega),by go_num,by omega,rfl,⟨l.set i d',hl.set_ (by rw[C.out];omega) d',by rw[Qe];exact C.out,J.set i V,λj hj=>by rw[getD_set_ne _ Gk];exact f.out j Gk,hfin,hF.set_ Gk _⟩,by omega⟩,by simp[intOf] <;> omega⟩
   obtain rfl:i=n+1:=Gk;obtain rfl:cy=0:=c9 rfl
   have a7:Hid (val l+q*val v=val u+pw (n+1)*b):=by
    have h1:=hI.out;rw[Zad (by rw[C.out];exact Qa _),Zad (by rw[a3.out];omega),Zad (by rw[a4.out];exact Qa _),Qo]at h1;exact h1
   clear hI f c9;have b9:Q<=q:=gj;go_wp2_with fail
   go_loopw [9,7] (λbw qw wr=>∃ (q b:Nat) (l:List Nat),bw=.int .i64 b/\qw=.int .u64 q/\b<=1/\Q<=q/\q<4294967296/\MutL wr g off l/\l.length=n+1/\Lt32 l/\Hid (val l+q*val v=val u+pw (n+1)*b)/\WinF w g off (n+1) wr) (λ_ qw _=>(intOf qw).toNat)
   case atStart=>exact⟨q,b,l,rfl,rfl,f0,b9,b3,hl,C.out,J,a7,hF⟩
   case round =>
    clear a7 hl C J hF;obtain⟨q,b,l,rfl,rfl,f0,b9,b3,hl,C,J,a7,hF⟩:=hrel;replace C:=Zb C;rcases Qd b with rfl|g4
    ·obtain⟨b6,b8⟩:=Zpf (U:=val u) (q:=q) (W:=val l) hV (by have:=a7.out;rw[Qn]at this;exact this) (by rw[hQ.out];exact b9)
     have hP:Hid (Z0v w g off u v (.returned (limb q)) wr):=⟨l,by rw[<- b6],by rw[C.out,a4.out],J,b8,hl,by rw[a4.out];exact hF⟩;have g1:((q:Int))%4294967296=(q:Int):=Gk;clear b6 b8 a7;go_wp2_with fail;go_ret;exact hP.out
    obtain rfl:b=1:=Gk
    have f7:Q<q:=by
     have:=Znu (q:=q) (W:=val l) (M:=pw (n+1)) hV (by have:=a7.out;rw[QL]at this;exact this) (by have:=Zgq J;rw[C.out]at this;exact this);rw[hQ.out]at this;exact this
    go_wp2_with fail
    go_loopw [13,10] (λiv cv wr=>∃ i cy:Nat,i<=n+1/\iv=.int .i64 i/\cy<=1/\cv=.int .u64 cy/\DAdd w g off n l v i cy wr) (λiv _ _=>n+1-(intOf iv).toNat)
    case atStart=>exact⟨0,0,by omega,rfl,by omega,rfl,l,hl,C.out,J,λ_ _=>rfl,by simp[val],hF⟩
    case round =>
     obtain⟨i,cy,f6,rfl,c1,rfl,l2,a9,I,b2,f,hI,b5⟩:=hrel;replace I:=Zb I;replace f:=Zb f;replace hI:=Zb hI;have e8:=J.get i;rcases QU i n with hi|hi|hi
     ·obtain⟨Y,c3⟩:=a9 i (by rw[I.out];omega)
      rw[f.out i (Qa _)]at Y;have c2:=(b4.out _ b5).cell (k:=i) hi;have hx:=hv.lt.get i
      have o:∀ s c':Nat,s+4294967296*c'=cy+l[i]?.getD 0+v[i]?.getD 0->val ((l2.set i s).take (i+1))+pw (i+1)*c'=val (l.take (i+1))+val (v.take (i+1)):=
       λs c' h=>Zo2 (by rw[I.out];omega) hI.out h
      replace o:=Zb o;obtain⟨x,a6⟩:=Gz (v[i]?.getD 0);obtain⟨y,O⟩:=Gz (l[i]?.getD 0);rw[a6]at c2 hx o;rw[O]at Y e8 o;replace a6:=Zb a6;replace O:=Zb O;go_wp2_with fail;have e1:((cy:Int)+y+x)%4294967296=(((cy+y+x)%4294967296:Nat):Int):=Gk;have e2:((cy:Int)+y+x)/4294967296=(((cy+y+x)/4294967296:Nat):Int):=Gk;rw[e1,e2];refine⟨⟨i+1,(cy+y+x)/4294967296,by omega,by go_num,by omega,rfl,l2.set i ((cy+y+x)%4294967296),a9.set_ (by rw[I.out];omega) _,by rw[Qe];exact I.out,b2.set i Gk,λj hj=>by rw[getD_set_ne _ Gk];exact f.out j Gk,o.out _ _ Gk,b5.set_ Gk _⟩,by simp[intOf] <;> omega⟩
     ·subst hi
      obtain⟨Y,c3⟩:=a9 i (by rw[I.out];omega);rw[f.out i (Qa _)]at Y
      have o:∀ s c':Nat,s+4294967296*c'=cy+l[i]?.getD 0->val ((l2.set i s).take (i+1))+pw (i+1)*c'=val (l.take (i+1))+val (v.take (i+1)):=
       λs c' h=>Zo2 (by rw[I.out];omega) hI.out (by rw[getD_none (l:=v) (by rw[a3.out];exact Qa _),QD];exact h)
      replace o:=Zb o;obtain⟨y,O⟩:=Gz (l[i]?.getD 0);rw[O]at Y e8 o;replace O:=Zb O;go_wp2_with fail;have e1:((cy:Int)+y)%4294967296=(((cy+y)%4294967296:Nat):Int):=Gk;have e2:((cy:Int)+y)/4294967296=(((cy+y)/4294967296:Nat):Int):=Gk;rw[e1,e2];refine⟨⟨i+1,(cy+y)/4294967296,by omega,by go_num,by omega,rfl,l2.set i ((cy+y)%4294967296),a9.set_ (by rw[I.out];omega) _,by rw[Qe];exact I.out,b2.set i Gk,λj hj=>by rw[getD_set_ne _ Gk];exact f.out j Gk,o.out _ _ Gk,b5.set_ Gk _⟩,by simp[intOf] <;> omega⟩
     obtain rfl:i=n+1:=Gk
     have hfin:Hid (val l2+(q-1)*val v=val u+pw (n+1)*(1-cy)):=by
      have h1:=hI.out;rw[Zad (by rw[I.out];exact Qa _),Zad (by rw[C.out];exact Qa _),Zad (by rw[a3.out];omega)]at h1;have h2:=a7.out;have h3:=Zh2 (v:=val v) (show 0<q by omega);rw[QL]at h2;unfold Hid;rcases Qd cy with rfl|h0
      ·rw[Qn]at h1
       rw[Nat.sub_zero,QL];omega
      obtain rfl:cy=1:=Gk;rw[QL]at h1;rw[Nat.sub_self,Qn];omega
     clear hI f;have e3:((q:Int)-1)=((q-1:Nat):Int):=Gk;have e4:((1:Int)-cy)=((1-cy:Nat):Int):=Gk;replace e3:=Zb e3;replace e4:=Zb e4;go_wp2_with fail
     go_roundw
     case rel=>exact⟨q-1,1-cy,l2,by rw[<- e4.out],by rw[<- e3.out],by omega,by omega,by omega,a9,I.out,b2,hfin,b5⟩
     case measure=>simp[intOf] <;> omega
theorem DivR.step2{w wr w5:World}{g q:Nat}{A:Option Addr}{c m nq:Nat}{vl lu lq:List Nat}{a b s k:Nat}{l:List Nat}(hD:DivI (2^s*a) (2^s*b) m lu lq (k+1))(hq:lq.length=nq)(hM:MutL wr g 0 lu)(hB:Blk wr q 106 (Zz lq))
    (hL:Lim wr A m c vl) (hw:Below w.heap.size w wr) (hv:val vl=2^s*b) (hlen:l.length=m+1) (hlt:Lt32 l) (hl:val l=val ((lu.drop k).take (m+1))%val vl) (hQ:val ((lu.drop k).take (m+1))/val vl<4294967296)
    (hl5:MutL w5 g k l) (hF:WinF wr g k (m+1) w5) (hgq:g≠q) (hA:∀ b o,A=some ⟨b,o,none⟩->b≠g/\b≠q) (hg:w.heap.size<=g) (hqs:w.heap.size<=q) :
    DivR w g q A c m nq vl a b s k (w5.setCell ⟨q,k,none⟩ (limb (val ((lu.drop k).take (m+1))/val vl))):=by
 have h:2^s*b<=pw m:=by rw[<- hv];exact Qw hL.lt_pw
 have f:k+l.length<=lu.length:=by have:=hD.2.2.1;have:=hD.2.2.2.1;omega
 have u:Blk w5 q 106 (Zz lq):=(hF.1.block q hB.lt (λe=>hgq (by injection e with e;exact e.symm))).trans hB
 refine⟨splice lu k l,lq.set k (val ((lu.drop k).take (m+1))/val vl),hD.step h hlen hlt hQ (by rw[hv]) (by rw[<- hv];exact hl),by rw[Qe];exact hq,
  (Zu4 hM f (by rw[hlen];exact hF) hl5).far hgq,?_,Lim.far ?_ (λb o e=>(hA b o e).2),?_⟩
 rw[<- Zb2];exact u.set_ _ _
 ·exact⟨hL.1,hL.2.1,hL.2.2.1,hL.2.2.2.1,λhn=>by
    obtain⟨b,o,e,hc⟩:=hL.2.2.2.2 hn;exact⟨b,o,e,λj hj=>(QQ (a:=⟨b,o+j,none⟩) (hF.1.block b (Zo (hc 0 hn)) (λe2=>(hA b o e).1 (by injection e2)))).trans (hc j hj)⟩⟩
 exact(hw.grown hF.1 hw.size (λj hj=>by injection hj with hj;omega)).setCell (p:=⟨q,k,none⟩) hqs _
def ShiftI(x:Nat)(sv:Value):Prop:=∃ s:Nat,sv=.int .u64 (s:Int)/\s<=31/\2^s*x<4294967296
def ShrR(w0:World)(s:Nat)(rest:List Nat)(i:Nat)(v:Value)(wr:World):Prop:=
 ∃ o,OwnL 106 wr w0.heap.size v o/\o.length=i/\val o+pw i*(val (rest.drop i)/2^s)=val rest/2^s/\Below w0.heap.size w0 wr
theorem Zy0(A B:Option Addr)(n c m d:Nat)(a b:Nat)(w:World)(ha:Lim w A n c (digits a))(hb:Lim w B m d (digits b))(hn:n<=100000)(h:a<b) :
    Calls Tryz.prog 98 #[.slice A n c,.slice B m d] w (Zqw w a b):=by
 have C:Hid (Zcn (digits a) (digits b)<0):=by
  have:=(Zhu (va:=a) (vb:=b));unfold Hid;omega
 obtain⟨cv,f⟩:∃ x:Int,Zcn (digits a) (digits b)=x:=⟨_,rfl⟩;have J:cv<0:=by rw[<- f];exact C.out
 have HC:=Zb f;clear C f;go_in;go_wp2_with fail;refine(Zcl _ _ _ _ _ _ _ _ _ ha hb).mono ?_;rintro e w1 ⟨y,u⟩;rw[HC.out]at y;subst y;go_wp2_with fail;refine(Zd8 _ _ _ _ _ (ha.below u) Gk).mono ?_;rintro e w2 ⟨A2,n2,c2,l2,rfl,hL,o,I⟩;replace o:=Zb o;go_wp2_with fail
 go_ret2
 have hB:Below w.heap.size w w2:=Gs u I;exact⟨_,_,_,_,_,_,rfl,by rw[QE h,Zar];exact Lim.nil _ _ _ (QK _),by rw[Qx h];have:=o.out;rw[Zi]at this;rw[<- this];exact hL,hB⟩
theorem Z0e(A B:Option Addr)(n c m d:Nat)(a b:Nat)(w:World)(ha:Lim w A n c (digits a))(hb:Lim w B m d (digits b))(hn:n<=100000)(h:b<=a)(hm:m=1) :
    Calls Tryz.prog 98 #[.slice A n c,.slice B m d] w (Zqw w a b):=by
 subst hm;have a5:=ha.2.1;have Y:=ha.2.2.1;have a6:=hb.2.1;have a1:=hb.2.2.1;unfold maxLen at Y a1;obtain⟨cv,u⟩:∃ x:Int,Zcn (digits a) (digits b)=x:=⟨_,rfl⟩;have C:¬ cv<0:=by rw[<- u];have:=(Zhu (va:=a) (vb:=b));omega
 have a0:decide (cv<0)=false:=by simpa using C
 have HC:=Zb u;clear u C;obtain⟨I,a3,J⟩:=Zmn hb.len;obtain⟨g,o,rfl,f⟩:=hb.at_ (k:=0) Gk;rw[I]at f;simp at f;replace I:=Zb I;have a2:=Zb (Zi a);go_in;go_wp2_with fail;refine(Zcl _ _ _ _ _ _ _ _ _ ha hb).mono ?_;rintro e w1 ⟨T,y⟩;rw[HC.out]at T;subst T;have V:=Za y f;go_wp2_with fail;refine(Zu6 _ _ _ b _ _ (ha.below y) a3 J Gk).mono ?_;rintro e w2 ⟨A2,n2,c2,A3,n3,c3,rfl,U,O,a4⟩;rw[a2.out]at U O;go_wp2_with fail
 go_ret2
 exact⟨_,_,_,_,_,_,rfl,U,O,Gs y a4⟩
theorem Ee{G:Prop}(h:G:=by
 go_wp2_with (at_builtin;refine Zx _ rfl (.tmp 101) (.tmp 106) 37 rfl wo.heap.size 106 i0 _ 1 4 Tryz.underlying37 hi el iT iU rfl Gk _ i (o.map limb) rfl (by have:=aN.out;subst this;exact ai.1.alloc _) _ _ 1 1 _ rfl (Zbx _ _ _) (by simp[Value.oneCell']) (by simp only[maxLen];omega) Gk Gb ?_;intro v1 w1 aE cU jD);have ae:=(hB.alloc hB.size _).grown cU Gb ai.row_ge
 go_roundw
 case rel=>((repeat apply Exists.intro);exact⟨⟨i+1,by omega,by go_num,jK.out _ _ _ (by first|exact gJ.out _ fU.out|exact dD.out _ fU.out) aE ae⟩,rfl⟩)
 case measure=>simp[intOf];omega):G:=h
theorem Zxw(A B:Option Addr)(n c m d:Nat)(a b:Nat)(w:World)(ha:Lim w A n c (digits a))(hb:Lim w B m d (digits b))(hn:n<=100000)(h:b<=a)(hm:2<=m) :
    Calls Tryz.prog 98 #[.slice A n c,.slice B m d] w (Zqw w a b):=by
 have m1:=ha.2.1;have j8:=ha.2.2.1;have l5:=hb.2.1;have k0:=hb.2.2.1;unfold maxLen at j8 k0;have iG:m<=n:=by have:=Z5 h;rw[ha.len,hb.len]at this;exact this
 obtain⟨i0,hi,el,iT,iU⟩:=info_parts Zdj;have m0:=Zgs (P:=Tryz.prog) 37 106 Tryz.underlying37 hi el iT iU ((n:Int)+1-m) (n+1-m) Gk Gk;obtain⟨cv,a5⟩:∃ x:Int,Zcn (digits a) (digits b)=x:=⟨_,rfl⟩;have b1:¬ cv<0:=by rw[<- a5];have:=(Zhu (va:=a) (vb:=b));omega
 have i8:decide (cv<0)=false:=by simpa using b1
 have HC:=Zb a5;clear a5 b1;have m4:((m:Int) == 1)=false:=by simp;omega
 obtain⟨g,o,rfl,J⟩:=hb.at_ (k:=m-1) Gk;have f:=hb.len;have b9:=Zfy (v:=b) Gk;have e5:=Zqg f Gk;have b0:=hb.lt.get (m-1);have h6:=Zcw b;rw[f]at b9 h6;have a3:=Zif f Gk hb.lt;rw[Zi]at e5 a3;obtain⟨x,hx⟩:=Gz ((digits b)[m-1]?.getD 0);rw[hx]at J b9 e5 b0 a3;replace f:=Zb f;replace hx:=Zb hx;have cK:=Zb (Zi a);have cL:=Zb (Zi b);go_in;go_wp2_with fail;refine(Zcl _ _ _ _ _ _ _ _ _ ha hb).mono ?_;rintro e w1 ⟨f7,T⟩;rw[HC.out]at f7;subst f7;have a8:=Za T J;have j1:0<x:=Gk;go_wp2_with fail
 go_loop [7] (λsv=>ShiftI x sv) (λsv=>31-(intOf sv).toNat)
 case atStart=>exact⟨0,rfl,by omega,by simpa using b0⟩
 case round =>
  obtain⟨s,rfl,k9,i4⟩:=hrel
  have j9:IntKind.u32.wrap ((x:Int)*2^s)=((2^s*x:Nat):Int):=by
   have e1:((x:Int)*2^s)=((2^s*x:Nat):Int):=by push_cast;rw[Int.mul_comm]
   rw[e1,IntKind.wrap_u32];omega
  obtain⟨y,hy⟩:=Gz (2^s*x);rw[hy]at j9 i4;by_cases hlt2:y<2147483648
  ·have k8:s<31:=by
     rcases Qz s 31 with h'|h';exact h';exfalso;obtain rfl:s=31:=Gk;have:2^31*1<=2^31*x:=Qt _ j1;rw[hy]at this;simp at this;omega
   have j2:2^(s+1)*x<4294967296:=by rw[Nat.pow_succ,Qv (2^s),Qj,hy];omega
   replace hy:=Zb hy;have d1:decide (y<2147483648)=true:=Gv hlt2;have d2:decide ((y:Int)<2147483648)=true:=Gv Gk;clear hlt2;go_wp2_with fail;exact⟨⟨s+1,by go_num,by omega,j2⟩,by simp[intOf];omega⟩
  replace hy:=Zb hy;have d1:decide (y<2147483648)=false:=Gu hlt2;have d2:decide ((y:Int)<2147483648)=false:=Gu Gk;clear hlt2;go_wp2_with fail;have l4:2147483648<=y:=by have:=of_decide_eq_false d1;omega
  clear d1 d2;have hs:s<32:=Gk
  have hxs:x+1<=2^(32-s):=by
   have h1:2^s*x<2^s*2^(32-s):=by
    rw[<- Nat.pow_add,show s+(32-s)=32 by omega,hy.out];exact i4
   exact Nat.lt_of_mul_lt_mul_left h1
  have i7:=ha.below T;have f5:=hb.below T;refine(Zpu _ m d s (digits b) _ f5 hs Gk).mono ?_;rintro e w3 ⟨v3,o3,rfl,c9,a0,a4,a6⟩;obtain⟨g3,c3,V,l9,l1,g7,b5,g0⟩:=c9.mut Gk;rw[a0]at V g7;subst V;have j0:Lim w3 (some ⟨g3,0,none⟩) (m+1) c3 o3:=g0.lim a0 g7 b5 c9.2;unfold maxLen at b5;replace a0:=Zb a0;replace a4:=Zb a4;clear c9 g0;go_wp2_with fail;refine(Zpu A n c s (digits a) _ (i7.below a6) hs Gk).mono ?_;rintro e w4 ⟨v4,o4,rfl,ea,cV,cW,e8⟩;obtain⟨g4,c4,b8,m2,l0,g2,g1,fe⟩:=ea.mut Gk;rw[cV]at b8 g2;subst b8;unfold maxLen at g1;replace cV:=Zb cV;replace cW:=Zb cW;go_wp2_with fail;replace cL:=cL.out;replace cK:=cK.out;rw[cL]at a4;rw[cK]at cW;have b3:=a0.out;have V:=a4.out
  have g5:2^s*(x+1)<=4294967296:=by
   exact Ii
  have b6:2^s*b<pw m:=by
   have h1:2^s*b<2^s*((x+1)*pw (m-1)):=Qs a3 (Qm Gk);have h2:2^s*((x+1)*pw (m-1))<=4294967296*pw (m-1):=by rw[<- Qj];exact Qq _ g5
   rw[<- Za7,show m-1+1=m by omega]at h2;omega
  have a2:val (o3.take m)=2^s*b:=by
   exact Iw
  have be:=(j0.take (k:=m) Gk).below e8
  have a7:y*pw (m-1)<=2^s*b:=by
   have h1:2^s*(x*pw (m-1))<=2^s*b:=Qt _ e5;rw[<- Qj,hy.out]at h1;exact h1
  have h8:2147483648<=(o3.take m)[m-1]?.getD 0:=by
   have h1:=Zif (v:=o3.take m) (n:=m) (by rw[Qp,b3];omega) Gk be.lt;rw[a2]at h1;have h2:=Nat.lt_of_mul_lt_mul_right (Qk a7 h1);omega
  have eU:Below w.heap.size w w4:=(Gs T a6).trans (e8.mono (Qf T.size a6.size))
  have a9:DivR w g4 w4.heap.size (some ⟨g3,0,none⟩) c3 m (n+1-m) (o3.take m) a b s (n+1-m) (w4.alloc (.cells (Zz (QM (n+1-m) 0)) 106)):=by
   exact ED
  have k2:∀ b o,some (⟨g3,0,none⟩:Addr)=some ⟨b,o,none⟩->b≠g4/\b≠w4.heap.size:=λb o e=>by
   injection e with e
   injection e with e1 e2
   have:=e8.size;omega
  have j6:w.heap.size<=g4:=by have:=T.size;have:=a6.size;omega
  have e9:g4≠w4.heap.size:=Gk;have c2:g3≠g4:=Gk;clear fe ea cV cW a4 a0 cK cL J a8 V b3;replace a2:=Zb a2;replace a7:=Zb a7
  go_loopw [11] (λjv wr=>∃ k:Nat,k<=n+1-m/\jv=.int .i64 ((k:Int)-1)/\DivR w g4 w4.heap.size (some ⟨g3,0,none⟩) c3 m (n+1-m) (o3.take m) a b s k wr) (λjv _=>(intOf jv+1).toNat)
  case atStart=>exact⟨n+1-m,Qa _,rfl,a9⟩
  case round =>
   obtain⟨k,hk,rfl,lu,lq,hD,hq,hM,bP,i2,e0⟩:=hrel;replace hq:=Zb hq;rcases k with _|k
   ·obtain⟨e1,e2⟩:=hD.stop
    have j3:0<b:=by
     rcases Qd b with h0|h0
     ·subst h0
      rw[Zar]at f;have:=f.out;simp at this;omega
     exact h0
    have c1:Lim wr (some ⟨g4,0,none⟩) (n+1) c4 lu:=hM.lim (by have:=hD.2.2.1;have:=hq.out;omega) g2 (by unfold maxLen;omega) hD.1
    have k6:Lim wr (some ⟨w4.heap.size,0,none⟩) (n+1-m) (n+1-m) lq:=by
     exact II
    have h4:val (lu.take m)=2^s*(a%b):=by
     have h1:=Zae lu m (by rw[c1.len];omega);have h2:2^s*(a%b)<2^s*b:=Qs (Qh _ j3) (Qm Gk);rcases Qd (val (lu.drop m))with h0|h0;rw[h0]at h1;omega;have:=Qt (pw m) h0;omega
    have a1:=c1.take (k:=m) Gk
    have i3:Hid (val (lu.take m)/2^s=a%b):=by
     unfold Hid;rw[h4,QH _ (Qm Gk)]
    obtain⟨rs,h9⟩:=Gz (lu.take m);rw[h9]at a1 i3;have c5:=Zb a1.len;replace e1:=Zb e1;clear hD e2 h4 h9 hM bP c1 a7 a2 h8 b6;go_wp2_with fail;obtain⟨wo,rfl⟩:=Gy wr
    go_loopw [14,13] (λiv ov wr=>∃ i:Nat,i<=m/\iv=.int .i64 i/\ShrR wo s rs i ov wr) (λiv _ _=>m-(intOf iv).toNat)
    case atStart=>exact⟨0,QK _,rfl,[],OwnL.nil _ _ _,rfl,by simp[val,Zd1],Qb _ _⟩
    case round =>
     obtain⟨i,l6,rfl,o,ai,aN,hI,hB⟩:=hrel;replace aN:=Zb aN;replace hI:=Zb hI;have b7:=a1.below hB;by_cases him:i<m
     ·have I:=Z0b (r:=rs) (i:=i) (s:=s) Gk (by rw[c5.out];exact him) a1.lt
      have g6:=b7.cell him;rw[Qo]at g6;have j7:=a1.lt.get i;have k5:=a1.lt.get (i+1);obtain⟨p,hp⟩:=Gz (2^s);have m5:0<p:=by rw[<- hp];exact Qm Gk
      have l2:(0:Int)<(p:Int):=Gk;have d0:((2:Int)^s)=(p:Int):=by rw[<- hp];push_cast;rfl
      rw[hp]at I;obtain⟨y0,e3⟩:=Gz (rs[i]?.getD 0);obtain⟨y1,C⟩:=Gz (rs[i+1]?.getD 0);rw[e3]at g6 j7 I;rw[C]at k5 I;replace I:=Zb I;replace e3:=Zb e3;obtain⟨X,hX⟩:=Gz (y0+4294967296*y1);rw[hX]at I;have m3:X<18446744073709551616:=Gk
      have jK:Hid (∀ (v1:Value) (w1:World) (Z:Int),Z=((X/p%4294967296:Nat):Int)->w1.ownsRow wo.heap.size 106 1 v1 (i+1) (o.map limb ++ [.int .u32 Z])->Below wo.heap.size wo w1->ShrR wo s rs (i+1) v1 w1):=λv1 w1 Z hZ h1 h2=>by
       refine⟨o ++ [X/p%4294967296],OwnL.snoc aN.out.symm h1 ai.2 hZ (Qh _ Gj),by rw[List.length_append,aN.out];rfl,?_,h2⟩;rw[Zeq,aN.out,hp];have h3:=hI.out;rw[hp,I.out]at h3;rw[<- h3,Za7,QC,Qv 4294967296 (pw i),Qj];omega
      have dD:∀ Y:Int,Y=(X:Int)->Y/2^s%4294967296=((X/p%4294967296:Nat):Int):=λY hY=>by
       rw[hY,d0,show (X:Int)/(p:Int)=((X/p:Nat):Int) from rfl];generalize X/p=z at *;omega
      have gJ:∀ Y:Int,Y=(X:Int)->IntKind.u32.wrap (Y/2^s)=((X/p%4294967296:Nat):Int):=λY hY=>by
       rw[IntKind.wrap_u32];exact dD Y hY
      replace dD:=Zb dD;replace gJ:=Zb gJ;replace d0:=Zb d0;replace hp:=Zb hp;by_cases him2:i+1<m
      ·have f4:=b7.cell him2
       rw[Qo]at f4;have fU:Hid ((y0:Int)+(y1:Int)*4294967296=(X:Int)):=by unfold Hid;omega
       replace hX:=Zb hX;rw[C]at f4;replace C:=Zb C;exact Ee
      have fU:Hid ((y0:Int)=(X:Int)):=by
        have:y1=0:=by rw[<- C];exact getD_none (by rw[c5.out];omega)
        unfold Hid;omega
      replace hX:=Zb hX;replace C:=Zb C;have d9:decide (i+1<m)=false:=Gu him2;have d8:decide ((i:Int)+1<(m:Int))=false:=Gu Gk;exact Ee
     obtain rfl:i=m:=Gk
     have k1:Hid (val o=a%b):=by
      have h1:=hI.out;rw[Ql (by rw[c5.out];exact Qa _)]at h1;simp only[val,Nat.zero_div,Qn,QD]at h1;unfold Hid;rw[h1];exact i3.out
     obtain⟨A6,c6,f9,f0⟩:=ai.lim;rw[aN.out]at f9 f0;subst f9;have i1:=k6.below hB;go_wp2_with fail;refine(Zd8 _ _ _ _ _ i1 Gk).mono ?_;rintro e w7 ⟨A7,n7,c7,l7,rfl,g8,rfl,e7⟩;go_wp2_with fail;refine(Zd8 _ _ _ _ _ (f0.below e7) Gk).mono ?_;rintro e w8 ⟨A8,n8,c8,l8,rfl,h5,rfl,f8⟩;rw[e1.out]at g8;rw[k1.out]at h5;go_wp2_with fail
     go_ret2
     have e6:Below w.heap.size w wr:=Gs e0 hB;exact⟨_,_,_,_,_,_,rfl,g8.below f8,h5,(Gs e6 e7).trans (f8.mono (Qf e6.size e7.size))⟩
   have k7:=hD;obtain⟨d1,d2,d3,d4,d5,d6,d7⟩:=k7;replace d3:=Zb d3;replace d5:=Zb d5;replace d7:=Zb d7;have g9:=bP.cell k;rw[Zas lq k (by rw[hq.out];omega)]at g9;have k3:=bP.frozen k;go_wp2_with fail;have k4:2^s*b<=pw m:=Qw b6;obtain⟨f6,f3⟩:=hD.win k4;have O:((lu.drop k).take (m+1)).length=m+1:=by rw[Qp,QV,d3.out];omega
   have i9:MutL wr g4 k ((lu.drop k).take (m+1)):=by
    have:=hM.win (k:=k) (n:=m+1) (by rw[d3.out];omega)
    rwa [Qo]at this
   have U:val ((lu.drop k).take (m+1))<4294967296*val (o3.take m):=by rw[f6,a2.out];exact f3
   rw[show k+m+1-k=m+1 by omega];refine(Zxy g4 k m (c4-k) c3 g3 0 _ _ _ i9 O ((d1.drop k).take (m+1)) Gk (by unfold maxLen;omega) Gk Gk i2 c2 U h8).mono ?_;rintro e w5 ⟨l,rfl,e4,h7,i5,j5,c0⟩
   have b4:val ((lu.drop k).take (m+1))/val (o3.take m)<4294967296:=by
    have j4:0<val (o3.take m):=by
     rcases Qd (val (o3.take m))with h0|h0;rw[h0]at U;omega;exact h0
    rw[Qc j4];exact U
   rw[O]at e4 c0;have hfin:=DivR.step2 (wr:=wr) hD hq.out hM bP i2 e0 a2.out e4 h7 i5 b4 j5 c0 e9 k2 j6 eU.size;have b2:Blk w5 w4.heap.size 106 (Zz lq):=(c0.1.block _ bP.lt (λe=>e9 (by injection e with e;exact e.symm))).trans bP;have i6:=b2.cell k;rw[Zas lq k (by rw[hq.out];omega)]at i6;have l3:=b2.frozen k;obtain⟨Q,hQ⟩:=Gz (val ((lu.drop k).take (m+1))/val (o3.take m));rw[hQ]at hfin b4 ⊢;clear g9 k3 i5 e4 hQ f6 O U f3;exact Iq
theorem Zj0(A B:Option Addr)(n c m d:Nat)(a b:Nat)(w:World)(ha:Lim w A n c (digits a))(hb:Lim w B m d (digits b))(hn:n<=100000)(hb0:0<b) :
    Calls Tryz.prog 98 #[.slice A n c,.slice B m d] w (Zqw w a b):=by
 rcases Qz a b with h|h;exact Zy0 A B n c m d a b w ha hb hn h;rcases Qz m 2 with h2|h2
 ·have h1:0<(digits b).length:=length_digits_pos.2 hb0
  rw[hb.len]at h1;exact Z0e A B n c m d a b w ha hb hn h Gk
 exact Zxw A B n c m d a b w ha hb hn h h2
theorem rNeg_ok(neg:Bool)(A:Option Addr)(n c:Nat)(z:Int)(w:World)(hz:Wd w neg A n c z) :
    Calls Tryz.prog 75 #[.agg #[.bool neg,.slice A n c]] w (ResW w (-z)):=by
 have hL:=hz.lim;have hn:=hz.2.1;have u:∀ X Y:Obj,Below w.heap.size w ((w.alloc X).alloc Y):=λX Y=>((Qb w.heap.size w).alloc (Qa _) _).alloc Gh _;have u:=Zb u;have o:Hid (okW neg (digits z.natAbs)=true):=hz.ok;have U:=Zb hz.sgEq;clear hz;go_in;go_wp2_with fail;refine(Zbw ((hL.alloc _).alloc _) o.out).mono ?_;rintro e w1 ⟨rfl,f⟩;obtain⟨a0,V⟩:=Zc0 f;have a1:w.heap.size+1<w1.heap.size:=by have:=f.size;simp at this;omega
 have h:Below w.heap.size w w1:=(u.out _ _).trans (f.mono Gg)
 have g7:Hid (Blk w1 (w.heap.size+1) 39 #[.bool false,.slice none 0 0]):=by
  refine Zc f ?_;exact CI
 have O:=hL.below h;go_wp2_with fail;refine(Zbv _ _ _ _ _ _ O Gk).mono ?_;rintro e w2 ⟨I,C,A3,n3,c3,y,rfl,J⟩;have T:Below w.heap.size w w2:=Gs h I;have m8:=Zc I g7.out;have m3:=m8.cell 0;have m4:=m8.cell 1;have m5:=m8.frozen 0;have m6:=m8.frozen 1;simp at m3 m4;replace m8:=Zb m8;clear a0 V;go_wp2_with fail;have HZ:sg (!neg) (val (digits z.natAbs))=-z:=by have h1:=U.out;rw[Zuk,h1]
 refine bodyPost_ret (v:=.tuple #[.agg #[.bool C,.slice A3 n3 c3],.int .i64 y]) (by simp[results,Tryz.results75,go_sem,m3,m4]) rfl ?_;exact ResW.box (HZ▸J) T Gk m8.out
theorem Zqb(na nb:Bool)(A B:Option Addr)(n c m d:Nat)(za zb:Int)(w:World)(ha:Wd w na A n c za)(hb:Wd w nb B m d zb) :
    Calls Tryz.prog 31 #[.agg #[.bool na,.slice A n c],.agg #[.bool nb,.slice B m d]] w λe w'=>e=.returned (.int .i64 (Zcr za zb))/\Below w.heap.size w w':=by
 have f:=ha.lim;have o:=hb.lim;have dw:=ha.1;have dx:=hb.1;have aq:∀ X Y:Obj,Below w.heap.size w ((w.alloc X).alloc Y):=λX Y=>((Qb w.heap.size w).alloc (Qa _) _).alloc Gh _;have aq:=Zb aq;have gU:=Zb (Zdc za.natAbs zb.natAbs);have gV:=Zb (Zdc zb.natAbs za.natAbs)
 have hP:Hid (∀ (e:Ending) (w':World),(e=.returned (.int .i64 (Zcn (digits za.natAbs) (digits zb.natAbs)))/\Below w.heap.size w w')->(na=false/\nb=false)->e=.returned (.int .i64 (Zcr za zb))/\Below w.heap.size w w'):=λe w' ⟨h1,h2⟩ ⟨h3,h4⟩=>by
  subst h3 h4;have h5:¬ za<0:=by intro h;simp[h]at dw
  have h6:¬ zb<0:=by intro h;simp[h]at dx
  exact IV
 have hN:Hid (∀ (e:Ending) (w':World),(e=.returned (.int .i64 (Zcn (digits zb.natAbs) (digits za.natAbs)))/\Below w.heap.size w w')->(na=true/\nb=true)->e=.returned (.int .i64 (Zcr za zb))/\Below w.heap.size w w'):=λe w' ⟨h1,h2⟩ ⟨h3,h4⟩=>by
  subst h3 h4;have h5:za<0:=by by_cases h:za<0;exact h;simp[h]at dw
  have h6:zb<0:=by by_cases h:zb<0;exact h;simp[h]at dx
  exact IH
 have hM:Hid (∀ b,na=b->nb=!b->Ending.returned (.int .i64 (if b then -1 else 1))=.returned (.int .i64 (Zcr za zb))):=λb h3 h4=>by
  exact Fy
 clear ha hb dw dx;cases na <;> cases nb
 ·go_in
  go_wp2_with (go_at_call 73;((with_reducible refine(Zcl _ _ _ _ _ _ _ _ _ ((f.alloc _).alloc _) ((o.alloc _).alloc _)).mono ?_));rintro e w1 ⟨rfl,ab⟩);exact Cz
 ·go_in
  go_wp2_with fail;go_ret;exact⟨hM.out false rfl rfl,aq.out _ _⟩
 ·go_in
  go_wp2_with fail;go_ret;exact⟨hM.out true rfl rfl,aq.out _ _⟩
 go_in
 go_wp2_with (go_at_call 73;((with_reducible refine(Zcl _ _ _ _ _ _ _ _ _ ((o.alloc _).alloc _) ((f.alloc _).alloc _)).mono ?_));rintro e w1 ⟨rfl,ab⟩);exact IA
theorem Zl6(na nb:Bool)(A B:Option Addr)(n c m d:Nat)(za zb:Int)(w:World)(ha:Wd w na A n c za)(hb:Wd w nb B m d zb) :
    Calls Tryz.prog 59 #[.agg #[.bool na,.slice A n c],.agg #[.bool nb,.slice B m d]] w (ResW w (Qg za.natAbs zb.natAbs:Nat)):=by
 have a2:=ha.lim;have a0:=hb.lim;have hn:=ha.2.1;have hm:=hb.2.1;have J:∀ X Y Z:Obj,Below w.heap.size w (((w.alloc X).alloc Y).alloc Z):=λX Y Z=>(((Qb w.heap.size w).alloc (Qa _) _).alloc Gh _).alloc Gg _;have J:=Zb J;have y:Hid ((okW na (digits za.natAbs) && okW nb (digits zb.natAbs))=true):=by unfold Hid;rw[ha.ok,hb.ok];rfl
 clear ha hb;generalize za.natAbs=va at *;generalize zb.natAbs=vb at *;obtain⟨G,hG⟩:=Gz (Qg va vb);rw[hG];replace hG:=Zb hG;go_in;go_wp2_with fail;refine(Ze6 (((a2.alloc _).alloc _).alloc _) (((a0.alloc _).alloc _).alloc _) y.out).mono ?_;rintro e w1 ⟨rfl,f⟩;obtain⟨C,a6⟩:=Zc0 f;have a9:w.heap.size+1+1<w1.heap.size:=by have:=f.size;simp at this;omega
 have o:Below w.heap.size w w1:=(J.out _ _ _).trans (f.mono Gg);have g1:w1.cell? ⟨w.heap.size,1,none⟩=some (.slice A n c):=by simp[C,go_sem]
 have g2:w1.cell? ⟨w.heap.size+1,1,none⟩=some (.slice B m d):=by simp[C,go_sem]
 have g7:Blk w1 (w.heap.size+1+1) 39 #[.bool false,.slice none 0 0]:=by
  refine Zc f ?_;exact Ev
 have V:=a2.below o;have O:=a0.below o;replace g7:=Zb g7;clear C a6;go_wp2_with fail
 go_quiet (fail)
 have m7:Hid (Blk (w1.drewN nq) (w.heap.size+1+1) 39 #[.bool false,.slice none 0 0]):=Blk.drewN g7.out nq;have a4:Below w.heap.size w (w1.drewN nq):=Zf o nq;go_wp2_with fail
 go_loopw [6,7] (λxv yv wr=>GcdR w 39 G xv yv wr) (λ_ yv wr=>val (Zki wr yv))
 case atStart=>exact⟨va,vb,_,_,_,_,_,_,rfl,rfl,V,O,hn,hm,hG.out,m7.out,a4⟩
 case round =>
  obtain⟨u,v,A5,n5,c5,B5,m5,d5,rfl,rfl,U,be,a8,iE,hg,az,dG⟩:=hrel;replace hg:=Zb hg;replace az:=Zb az;by_cases hm0:0<m5
  ·have dC:0<v:=by rw[<- be.len]at hm0;exact length_digits_pos.1 hm0
   have eO:=Zb be.mem;go_wp2_with fail;refine(Zj0 _ _ _ _ _ _ u v _ U be Gk dC).mono ?_;exact EE
  obtain rfl:m5=0:=Gk
  have dC:v=0:=by
   exact IJ
  subst dC;have a3:Hid (u=G):=by have:=hg.out;rw[QT]at this;exact this
  have g8:=az.out;have g3:=g8.cell 0;have g4:=g8.cell 1;have g5:=g8.frozen 0;have g6:=g8.frozen 1;simp at g3 g4;clear g8;go_wp2_with fail;refine(Zbv _ _ _ _ _ _ U Gk).mono ?_;rintro e w6 ⟨a1,T,A7,n7,c7,I,rfl,a5⟩;have a7:Below w.heap.size w w6:=Gs dG a1;have m8:=Zc a1 az.out;have m3:=m8.cell 0;have m4:=m8.cell 1;have m5:=m8.frozen 0;have m6:=m8.frozen 1;simp at m3 m4;replace m8:=Zb m8;go_wp2_with fail;have HZ:sg false (val (digits u))=(G:Int):=by rw[Zi,a3.out];rfl
  refine bodyPost_ret (v:=.tuple #[.agg #[.bool T,.slice A7 n7 c7],.int .i64 I]) (by simp[results,Tryz.results59,go_sem,m3,m4]) rfl ?_;exact ResW.box (HZ▸a5) a7 Gk m8.out
