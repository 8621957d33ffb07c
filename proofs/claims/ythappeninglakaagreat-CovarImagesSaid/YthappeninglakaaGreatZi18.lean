/- Solving with positive pivots as the reference of covar -/
import Derived.Deep.LoopGhost
import Derived.Test.YthappeninglakaaGreatZi17
set_option maxRecDepth 100000
set_option maxHeartbeats 8000000
set_option linter.unusedSimpArgs false
set_option linter.unusedVariables false
namespace Go.Proofs.YthappeninglakaaGreat
open Go.RowKit
open Below renaming refl→Qa
open List renaming replicate→Qb,getElem?_map→Qc,getElem?_replicate→Qf,map_cons→Qg,mem_of_getElem?→Qi,map_nil→Qj,getElem?_range→Qk,getElem?_eq_getElem→Qm,getElem?_append_left→Qo,range→Qp,not_mem_nil→Qs,getElem?_eq_none→Qt,length_map→Qu,eq_nil_of_length_eq_zero→Qx,map_congr_left→Qy,mem_cons→Qz,getElem?_append_right→QB,length_take→QC,take_of_length_le→QE,mem_singleton→QJ,ext_getElem?→QK,take_add_one→QL,length_set→QQ,take_zero→QT
open Act renaming put→Qd
open Nat renaming le_trans→Qe,le_refl→Qh,lt_of_le_of_lt→Ql,lt_irrefl→QA,add_zero→QI,zero_le→QM,min_eq_left→QR
open Int renaming mul_le_mul→Qn
open Rat renaming intCast_le_intCast→Qq,intCast_mul→QD,mul_nonneg→QG,mul_pos→QN
open Bool renaming true_and→Qr,not_false→QH,and_eq_true→QO
open Option renaming map_some→Qv,map_eq_some_iff→QF,getD_some→QP
open World renaming cell?_of_block→Qw
open Blk renaming new→QS
section
variable{R:List (List Rat)}{n k:Nat}
end
attribute [local go_sem] Zg
def NumE(w:World)(z:Int)(e:Ending)(w':World):Prop:=
 Below w.heap.size w w'/\∃ neg A n c,e=.returned (.tuple #[.agg #[.bool neg,.slice A n c],.int .i64 0])/\Wd w' neg A n c z
def frP(q:Rat)(v:Value)(w:World):Prop:=∃ na A n c nb B m d,v=.tuple #[.agg #[.bool na,.slice A n c,.bool nb,.slice B m d],.int .i64 0]/\Fr w na A n c nb B m d q
def frV(q:Rat)(v:Value)(w:World):Prop:=∃ na A n c nb B m d,v=.agg #[.bool na,.slice A n c,.bool nb,.slice B m d]/\Fr w na A n c nb B m d q
def nmT(z:Int)(v:Value)(w:World):Prop:=∃ A n c,v=.agg #[.bool false,.slice A n c]/\Wd w false A n c z
def isV(x v:Value)(_:World):Prop:=v=x
def newV(B0:Nat)(t:TypeId)(cs:Array Value)(v:Value)(w:World):Prop:=∃ g,v=.pointer (some ⟨g,0,none⟩)/\B0<=g/\Blk w g t cs
def fl1V(q:Rat)(v:Value)(w:World):Prop:=∃ A c,v=.slice A 1 c/\FL w A 1 c [q]
def fl2V(p q:Rat)(v:Value)(w:World):Prop:=∃ A c,v=.slice A 2 c/\FL w A 2 c [p,q]
def Za4:List (Nat × (Value->World->Prop))->Nat->Value->World->Prop
 | [],_=>λ_ _=>True
 | (j,P)::l,i=>if i=j then P else Za4 l i
def Zel(P:Value->World->Prop):Prop:=∀ v w w',Below w.heap.size w w'->P v w->P v w'
section
variable{q:Rat}{z:Int}{x:Value}{B0:Nat}{t:TypeId}{cs:Array Value}
theorem Zph:Zel (frP q):=λ_ _ _ hb ⟨na,A,n,c,nb,B,m,d,e,h⟩=>⟨na,A,n,c,nb,B,m,d,e,h.below hb⟩
theorem Zc5:Zel (frV q):=λ_ _ _ hb ⟨na,A,n,c,nb,B,m,d,e,h⟩=>⟨na,A,n,c,nb,B,m,d,e,h.below hb⟩
theorem Zze:Zel (nmT z):=λ_ _ _ hb ⟨A,n,c,e,h⟩=>⟨A,n,c,e,h.below hb⟩
theorem Zyz:Zel (isV x):=λ_ _ _ _ h=>h
theorem Zfb:Zel (newV B0 t cs):=λ_ _ _ hb ⟨g,e,k,h⟩=>⟨g,e,k,Zc hb h⟩
theorem Zgw:Zel (fl1V q):=λ_ _ _ hb ⟨A,c,e,h⟩=>⟨A,c,e,h.below hb⟩
theorem Zoa{p:Rat}:Zel (fl2V p q):=λ_ _ _ hb ⟨A,c,e,h⟩=>⟨A,c,e,h.below hb⟩
theorem Zfj{l:List (Nat × (Value->World->Prop))}(h:∀ p ∈ l,Zel p.2)(i:Nat):Zel (Za4 l i):=by
 induction l with
 | nil=>exact λ_ _ _ _ _=>trivial
 | cons p l ih =>
  unfold Za4;by_cases e:i=p.1;rw[Gx e];exact h p List.mem_cons_self;rw[Gw e];exact ih λr hr=>h r (List.mem_cons_of_mem _ hr)
theorem Zgm:∀ p ∈ ([]:List (Nat × (Value->World->Prop))),Zel p.2:=λ_ h=>by cases h
theorem Zad{p:Nat × (Value->World->Prop)}{l:List (Nat × (Value->World->Prop))}(h:Zel p.2)(k:∀ p ∈ l,Zel p.2):∀ r ∈ p::l,Zel r.2:=λr hr=>by
 rcases List.mem_cons.1 hr with rfl|h2;exact h;exact k r h2
end
section
variable{rs:List RX}{i k E:Int}
end
theorem MFL.ents{w:World}{g o n c:Nat}{Q:List (List Rat)}(h:MFL w (some ⟨g,o,none⟩) n c Q)(hr:∀ i,i<n->(Q[i]?.getD []).length=n){I:Nat}(hI:I<n):∃ gi oi ci,w.cell? ⟨g,o+I,none⟩=some (.slice (some ⟨gi,oi,none⟩) n ci)/\n<=ci/\ci<=maxLen/\∀ K,K<n->∃ na A1 n1 c1 nb B m d,At4 w gi (oi+K*4) na A1 n1 c1 nb B m d/\Fr w na A1 n1 c1 nb B m d (Zh Q I K):=by
 obtain⟨A',n',c',h1,h2⟩:=h.atS hI;have hl:=h2.len;rw[hr I hI]at hl;subst hl;obtain⟨gi,oi,-,-,-,-,-,-,-,-,rfl,-,-⟩:=h2.at_ (k:=0) Gk;refine⟨gi,oi,c',h1,h2.cap.1,h2.cap.2,λK hK=>?_⟩;obtain⟨g9,o9,na,A1,n1,c1,nb,B,m,d,e,h3,h4⟩:=h2.at_ hK;cases e;exact⟨_,_,_,_,_,_,_,_,h3,h4⟩
theorem Zvt(a:Rat):0<=a*a:=by
 rcases Rat.le_total (a:=0) (b:=a)with h|h;exact QG h h;have e:a*a=(-a)*(-a):=by grind
 have h2:0 <= -a:=Rat.neg_le_neg h |> λh3=>by rw[Rat.neg_zero]at h3;exact h3
 rw[e];exact QG h2 h2
theorem Zqh{A:Nat->Nat->Rat}{n:Nat}(hA:∀ i k,i<n->k<n->A i k=A k i)(hp:posP A n){k:Nat}(hk:k<n):∀ f t,t+f=k->0<Zr A t k k
 | 0,t,h=>by
  obtain rfl:t=k:=Gk;exact hp t hk
 | f+1,t,h=>by
  have h1:=Zqh hA hp hk f (t+1) Gk;have hd:=hp t Gk;have h2:=Zmz hA (t:=t) (i:=k) (k:=k) Gk (Qh _) hk (hp.ne Gk);have h3:=QG (Zvt (lQ A k t)) (Rat.le_of_lt hd);have e:Zr A t k k=Zr A (t+1) k k+lQ A k t*lQ A k t*dQ A t:=by rw[h2];grind
  rw[e];have h6:Zr A (t+1) k k<=Zr A (t+1) k k+lQ A k t*lQ A k t*dQ A t:=by grind
  exact Rat.not_le.1 λh5=>Rat.not_le.2 h1 (Rat.le_trans h6 h5)
theorem Znh{rs:List RX}(h0:Zat rs=0){k:Nat}(hk:k<rs.length):0<Zh (qM rs) k k:=by
 obtain⟨h,f,e⟩:=Zew h0;exact Zqh (A:=Zh (qM rs)) (n:=rs.length) (λi k hi hk=>symB_iff.1 f i k (by unfold qM;rw[Qu];exact hi) (by unfold qM;rw[Qu];exact hk)) e (k:=k) Gk k 0 Gk
theorem Zvv(na:Bool)(A:Option Addr)(n c:Nat)(nb:Bool)(B:Option Addr)(m d:Nat)(w:World):(Instr.field 73 (.agg #[.bool na,.slice A n c,.bool nb,.slice B m d]) 0).run Tryz.prog w=.ok (.agg #[.bool na,.slice A n c,.bool nb,.slice B m d]) w:=by kernel_rfl
def calmC(r:RX):Prop:=∀ e ∈ r.es,e.few<=4 \/ 64<e.few
def calmX(rs:List RX):Prop:=(rs.length<=4 \/ 6<rs.length)/\rs.length<=10/\Zlh 4 rs
theorem FS{G:Prop}(h:G:=by
 go_wp2_with fail;go_ret;exact⟨_,rfl,hB,λhf=>absurd hf Gj⟩):G:=h
theorem Ce{G:Prop}(h:G:=by
 have jN:decide ((70:Int)<(f:Int))=false:=Gu Gk
 have fP:Hid (∀ a e,a<j+1->es[a]?=some e->e.few<=4 \/ 64<e.few):=Za (λa x ha hx=>by
  by_cases he:a=j
  ·subst he
   rw[fQ.out]at hx;cases hx;rw[jz.out];omega
  exact iz.out a x Gk hx)
 go_wp2_with fail
 go_roundg (rn-(j+1))
 case measure=>omega
 case rel=>exact⟨j+1,by omega,by go_num,fP,aG⟩):G:=h
theorem Ew{G:Prop}(h:G:=by
 have fC:decide ((10:Int)<(rn:Int))=false:=Gu Gk;go_wp2_with fail
 go_loopg [4] rn (λk iv wr=>∃ j:Nat,j+k=rn/\iv=.int .i64 j/\Hid (∀ a e,a<j->es[a]?=some e->e.few<=4 \/ 64<e.few)/\Below w0.heap.size w0 wr)
 case atStart=>exact⟨0,by omega,rfl,Za (λa e ha=>by omega),Below.refl _ _⟩
 case round =>
  obtain⟨wx,rfl⟩:=Gy wr;obtain⟨j,fS,rfl,iz,aq⟩:=hrel;have k1:=Zb aq k0;have fJ:=Za (Gs hB aq);cases gk with
  | zero =>
   obtain rfl:rn=j:=Gk;have t3:decide ((rn:Int)<(rn:Int))=false:=Gh
   have jw:Hid (∀ a x,a<i+1->rs[a]?=some x->calmC x):=Za (λa x ha hx=>by
    by_cases he:a=i
    ·subst he
     rw[hr.out]at hx;cases hx;intro e he;obtain⟨t,ht,jH⟩:=List.getElem_of_mem he;exact iz.out t e (by rw[jy.out]at ht;exact ht) (by rw[List.getElem?_eq_getElem ht,jH])
    exact hc.out a x Gk hx)
   go_wp2_with fail
   go_roundg (n-(i+1))
   case measure=>omega
   case rel=>exact⟨i+1,by omega,by omega,by go_num,jw,fJ.out⟩
  | succ fH =>
   obtain rfl:fH=rn-(j+1):=Gk;have jA:j<rn:=Gk;have t3:decide ((j:Int)<(rn:Int))=true:=Gv Gk;have bj:(j:Int)<(rn:Int):=Gk;obtain⟨g2,o2,e,fI,fQ,⟨c0,c1,c2,c3⟩,be,aJ⟩:=(eK.out.below aq).at_ jA;rw[fI]at k1;replace fI:=Za fI;have fT:=Nat.le_trans be.2.1 be.2.2.1;have eF:=Nat.le_trans aJ.2.1 aJ.2.2.1;have iq:=Za (λW1=>Zql e.na e.nb e.A e.B e.n e.c e.m e.d W1 fT eF);obtain⟨f,hf⟩:=Gz (max e.n e.m);have jY:f<=9223372036854775807:=by unfold maxLen at fT eF;omega
   rw[hf]at iq;have jz:Hid (e.few=f):=Za hf;replace fQ:=Za fQ;replace hf:=Za hf;clear be aJ fT eF;go_wp2_with fail;refine(iq.out _).mono ?_;rintro e2 w5 ⟨rfl,ao⟩;have aG:=Gs aq ao;have aP:=Gn fJ ao;clear c0 c1 c2 c3 k1;by_cases f4:4<f
   ·have x4:decide ((4:Int)<(f:Int))=true:=Gv Gk
    by_cases f64:f<=64
    ·have jM:decide ((f:Int)<=64)=true:=Gv Gk
     go_wp2_with fail;go_ret;exact⟨_,rfl,aP.out,λhf=>absurd hf Gj⟩
    have jM:decide ((f:Int)<=64)=false:=Gu Gk;by_cases f70:70<f
    ·have jN:decide ((70:Int)<(f:Int))=true:=Gv Gk
     go_wp2_with fail;go_ret;exact⟨_,rfl,aP.out,λhf=>absurd hf Gj⟩
    exact Ce
   have x4:decide ((4:Int)<(f:Int))=false:=Gu Gk;exact Ce):G:=h
theorem Zqr(A:Option Addr)(n c:Nat)(rs:List RX)(w:World)(h:MXL w A n c rs) :
    Calls Tryz.prog 23 #[.slice A n c] w λe w'=>∃ b,e=.returned (.bool b)/\Below w.heap.size w w'/\(b=false->calmX rs):=by
 have hl:=h.1;have U:=h.2.1;have C:=h.2.2.1;unfold maxLen at C;replace h:=Za h;replace hl:=Za hl;go_in;go_wp2_with fail
 go_loopg [3] n (λk iv wr=>∃ i:Nat,i+k=n/\i<=10/\iv=.int .i64 i/\Hid (∀ a r,a<i->rs[a]?=some r->calmC r)/\Below w.heap.size w wr)
 case atStart=>exact⟨0,by omega,by omega,rfl,Za (λa r ha=>by omega),Qa _ _⟩
 case round =>
  obtain⟨w0,rfl⟩:=Gy wr;obtain⟨i,T,O,rfl,hc,hB⟩:=hrel;by_cases hin:i<n
  case neg =>
   have t1:decide ((i:Int)<(n:Int))=false:=Gu Gk;have u:n<=10:=Gk
   have y:Hid (Zlh 4 rs):=Za (λr hr=>by
    obtain⟨a,ha,e⟩:=List.getElem_of_mem hr;exact hc.out a r (by rw[hl.out]at ha;omega) (by rw[Qm ha,e]))
   by_cases h4:4<n
   ·have υ4:decide ((4:Int)<(n:Int))=true:=Gv Gk
    by_cases h6:n<=6
    ·have υ6:decide ((n:Int)<=6)=true:=Gv Gk
     exact FS
    have υ6:decide ((n:Int)<=6)=false:=Gu Gk;have fC:decide ((10:Int)<(n:Int))=false:=Gu Gk;go_wp2_with fail;go_ret;exact⟨_,rfl,hB,λ_=>⟨.inr (by rw[hl.out];omega),by rw[hl.out];exact u,y.out⟩⟩
   have υ4:decide ((4:Int)<(n:Int))=false:=Gu Gk;have fC:decide ((10:Int)<(n:Int))=false:=Gu Gk;go_wp2_with fail;go_ret;exact⟨_,rfl,hB,λ_=>⟨.inl (by rw[hl.out];omega),by rw[hl.out];exact u,y.out⟩⟩
  have t1:decide ((i:Int)<(n:Int))=true:=Gv Gk;by_cases hi10':i<10
  case neg =>
   have t2:decide ((i:Int)<10)=false:=Gu Gk;have I:decide (i<10)=false:=Gu Gk;have υ4:decide ((4:Int)<(n:Int))=true:=Gv Gk;have υ6:decide ((n:Int)<=6)=false:=Gu Gk;have fC:decide ((10:Int)<(n:Int))=true:=Gv Gk;exact FS
  have t2:decide ((i:Int)<10)=true:=Gv Gk;have I:decide (i<10)=true:=Gv Gk;obtain⟨fH,rfl⟩:∃ j,gk=j+1:=⟨gk-1,by omega⟩;obtain rfl:fH=n-(i+1):=Gk;have bi:(i:Int)<(n:Int):=Gk;obtain⟨g,o,⟨rA,rn,rc,es⟩,rfl,hr,k0,hF⟩:=(h.out.below hB).at_ hin;simp only at k0 hF;have J:=Qe hF.2.1 hF.2.2.1;unfold maxLen at J;have jy:Hid (es.length=rn):=Za hF.1;have eK:=Za hF;replace hr:=Za hr;clear hF;by_cases h4:4<rn
  ·have υ4:decide ((4:Int)<(rn:Int))=true:=Gv Gk
   by_cases h6:rn<=6
   ·have υ6:decide ((rn:Int)<=6)=true:=Gv Gk
    exact FS
   have υ6:decide ((rn:Int)<=6)=false:=Gu Gk;by_cases h10:10<rn
   ·have fC:decide ((10:Int)<(rn:Int))=true:=Gv Gk
    exact FS
   exact Ew
  have υ4:decide ((4:Int)<(rn:Int))=false:=Gu Gk;exact Ew
section
variable{Q:List (List Rat)}{xs:List Rat}{n:Nat}
theorem LeN.mono{i j:Nat}{q:Rat}(h:LeN i q)(hij:i<=j):LeN j q:=⟨Qe h.1 (Zb1 hij),Qe h.2 (Zb1 hij)⟩
end
theorem Z3f{A V:Option Addr}{n c nv cv:Nat}{rs:List RX}{es:List FX}{w:World}(h:MXL w A n c rs)(hv:FXL w V nv cv es)(hf:Zlh 4 rs)(hn4:n<=4)(hx:∀ e ∈ es,e.few<=4 \/ 64<e.few)(h0:Zib rs es=0):Ztm (Zh (qM rs)) rs.length (Zrw es):=by
 have hE:Zat rs=0:=by
  by_cases e:Zat rs=0;exact e;rw[Zp3 rfl e]at h0;exact absurd h0 e
 have hb:es.length=rs.length/\Zcz es=true:=by
  by_cases e:es.length=rs.length/\Zcz es=true;exact e;rw[Zk0 hE e]at h0;exact absurd h0 Gj
 obtain⟨y,O,I⟩:=Zew hE;have C:rs.length=n:=h.1;have T:0<n:=by rw[<- C];exact y.facts.1
 have J:=y.small h hf;have hF:=y.fac h O hf (k:=4) (by rcases(show n=1 \/ n=2 \/ n=3 \/ n=4 by omega)with rfl|rfl|rfl|rfl <;> decide);rw[C]at I ⊢;refine Zvy Gk hF (λi j _ _=>LeN.mono (J i j) Gj) (λi _=>?_) I;unfold Zrw;rw[Qc];cases e:es[i]? with
 | none=>exact⟨QM _,Zbt _⟩
 | some f =>
  have o:=Qi e;have u:f.fine64=true:=List.all_eq_true.1 hb.2 f o;unfold FX.fine64 at u;rw[QO,decide_eq_true_eq]at u
  have h4:f.few<=4:=by
   rcases hx f o with h|h;exact h;omega
  exact LeN.mono (Zsq (hv.2.2.2.1 f o) u.2 h4) Gj
theorem Z3g{A:Option Addr}{n c:Nat}{rs:List RX}{w:World}(h:MXL w A n c rs)(hf:Zlh 4 rs)(h0:Zat rs=0):∀ a b,SmN 5 5 (Zh (qM rs) a b):=λa b=>by
 have h4:=(Zew h0).1.small h hf a b;exact⟨Ql h4.1 (Zci Gj),Ql h4.2 (Zci Gj)⟩
structure RootZ (s r up:Int):Prop where
 r0:0<=r
 lo:r*r<=s
 hi:s<(r+1)*(r+1)
 up:up=if r*r<s then r+1 else r
theorem RootZ.le{s r up x:Int}(h:RootZ s r up):(x<=0 \/ x*x<=s) ↔ x<=r:=by
 obtain⟨h0,h1,h2,-⟩:=h;constructor
 ·rintro(h3|h3)
  omega;apply Classical.byContradiction;intro h4;have h5:(r+1)*(r+1)<=x*x:=Qn Gk Gk Gk Gk;omega
 intro h3;rcases Int.lt_or_le 0 x with h4|h4
 ·have h5:x*x<=r*r:=Qn h3 h3 Gk h0
  exact .inr Gk
 exact .inl h4
theorem RootZ.ge{s r up x:Int}(h:RootZ s r up):(x<=0/\s<=x*x) ↔ x <= -up:=by
 obtain⟨h0,h1,h2,h3⟩:=h;have hx:x*x=(-x)*(-x):=by rw[Int.neg_mul_neg]
 rw[hx];by_cases h4:r*r<s
 ·rw[Gx h4]at h3
  constructor
  ·rintro⟨h5,h6⟩
   apply Classical.byContradiction;intro h7;have h8:(-x)*(-x)<=r*r:=Qn Gk Gk Gk h0;omega
  intro h5;have h8:(r+1)*(r+1)<=(-x)*(-x):=Qn Gk Gk Gk Gk;exact⟨by omega,by omega⟩
 rw[Gw h4]at h3;constructor
 ·rintro⟨h5,h6⟩
  apply Classical.byContradiction;intro h7;have h8:(-x+1)*(-x+1)<=r*r:=Qn Gk Gk Gk h0;have h9:(-x+1)*(-x+1)=(-x)*(-x)+2*(-x)+1:=by grind
  omega
 intro h5;have h8:r*r<=(-x)*(-x):=Qn Gk Gk h0 Gk;exact⟨by omega,by omega⟩
theorem Zxv{a d w:Int}(hd:0<d):w<=Int.fdiv a d ↔ w*d<=a:=by
 rw[Int.fdiv_eq_ediv_of_nonneg _ Gk];exact Int.le_ediv_iff_mul_le hd
theorem Zjq{a b c:Rat}(h:0<c):c*a<=c*b ↔ a<=b:=⟨λh1=>Rat.le_of_mul_le_mul_left h1 h,λh1=>Rat.mul_le_mul_of_nonneg_left h1 (Rat.le_of_lt h)⟩
section
variable{mean sq:Rat}{m n s r up w:Int}
theorem Zls(hm:0<m)(hn:(n:Rat)=2*mean*m)(hs:(s:Rat)=4*sq*m*m):((w:Rat)-mean<=0 ↔ 2*m*w-n<=0)/\(((w:Rat)-mean)*((w:Rat)-mean)<=sq ↔ (2*m*w-n)*(2*m*w-n)<=s)/\(sq<=((w:Rat)-mean)*((w:Rat)-mean) ↔ s<=(2*m*w-n)*(2*m*w-n)):=by
 have e:(0:Rat)<(m:Rat):=by exact_mod_cast hm
 have e1:((2*m*w-n:Int):Rat)=2*(m:Rat)*((w:Rat)-mean):=by
  rw[Rat.intCast_sub,QD,QD,hn];have:((2:Int):Rat)=2:=rfl;rw[this];grind
 have h:(0:Rat)<2*(m:Rat):=QN Gj e;have f:(0:Rat)<4*(m:Rat)*(m:Rat):=QN (QN Gj e) e
 have e2:(((2*m*w-n)*(2*m*w-n):Int):Rat)=4*(m:Rat)*(m:Rat)*(((w:Rat)-mean)*((w:Rat)-mean)):=by
  rw[QD,e1];grind
 have e3:(s:Rat)=4*(m:Rat)*(m:Rat)*sq:=by rw[hs];grind
 refine⟨?_,?_,?_⟩
 ·have h1:((2*m*w-n:Int):Rat)<=((0:Int):Rat) ↔ 2*m*w-n<=0:=Qq
  rw[<- h1,e1];have:((0:Int):Rat)=2*(m:Rat)*0:=by show (0:Rat)=_;grind
  rw[this];exact(Zjq h).symm
 ·have h1:(((2*m*w-n)*(2*m*w-n):Int):Rat)<=(s:Rat) ↔ _:=Qq
  rw[<- h1,e2,e3];exact(Zjq f).symm
 have h1:(s:Rat)<=(((2*m*w-n)*(2*m*w-n):Int):Rat) ↔ _:=Qq;rw[<- h1,e2,e3];exact(Zjq f).symm
theorem Zyu(hm:0<m)(hn:(n:Rat)=2*mean*m)(hs:(s:Rat)=4*sq*m*m)(hr:RootZ s r up):((w:Rat)-mean<=0 \/ ((w:Rat)-mean)*((w:Rat)-mean)<=sq) ↔ w<=Int.fdiv (n+r) (m+m):=by
 obtain⟨h1,h2,-⟩:=Zls (w:=w) hm hn hs;rw[h1,h2,hr.le,Zxv Gk];have:w*(m+m)=2*m*w:=by grind
 omega
theorem Zwg(hm:0<m)(hn:(n:Rat)=2*mean*m)(hs:(s:Rat)=4*sq*m*m)(hr:RootZ s r up):((w:Rat)-mean<=0/\sq<=((w:Rat)-mean)*((w:Rat)-mean)) ↔ w<=Int.fdiv (n-up) (m+m):=by
 obtain⟨h1,-,h3⟩:=Zls (w:=w) hm hn hs;rw[h1,h3,hr.ge,Zxv Gk];have:w*(m+m)=2*m*w:=by grind
 omega
end
def n0I(rs:List RI):Nat:=(rs[0]?.map RI.n).getD 0
def Zrs(k:Nat)(r:RI):Bool:=decide (r.n=k) && !Ziy (-1099511627776) r.l
def Zlz(rs:List RI):Bool:=decide (200<rs.length) || rs.any RI.long
def sysB(rs:List RI)(right weights:List Int):Bool:=
 !decide (n0I rs=0) && (decide (weights.length=rs.length) && (decide (right.length=rs.length) && (!Ziy 1 weights && (!Ziy (-1099511627776) right && rs.all (Zrs (n0I rs))))))
def Zd5(rs:List RI)(right weights:List Int):Int:=if Zlz rs=true then 4 else if sysB rs right weights=true then 0 else 8
theorem Zpj{rs:List RI}{a b:List Int}(h:Zlz rs=true):Zd5 rs a b=4:=by unfold Zd5;rw[Gx h]
theorem Z0v{rs:List RI}{a b:List Int}(h:Zlz rs=false)(h0:sysB rs a b=false):Zd5 rs a b=8:=by unfold Zd5;rw[Gw (by simp[h]),Gw (by simp[h0])]
theorem sysE_ok{rs:List RI}{a b:List Int}(h:Zlz rs=false)(h0:sysB rs a b=true):Zd5 rs a b=0:=by unfold Zd5;rw[Gw (by simp[h]),Gx h0]
theorem n0I_at{rs:List RI}{r:RI}(h:rs[0]?=some r):n0I rs=r.n:=by unfold n0I;rw[h];rfl
theorem EH{G:Prop}(h:G:=by
 go_in;go_wp2_with fail;refine(hC.out _ (by first|exact Below.refl _ _|exact Zf Below.refl _ _ _)).mono ?_;rintro e w1 ⟨rfl,ab⟩;have ae:Below w.heap.size w w1:=by first|exact ab|exact(Below.refl _ _).trans (ab.mono (Below.refl _ _).size)|exact(Zf (Below.refl _ _) _).trans (ab.mono (Below.refl _ _).size)
 clear ab;go_wp2_with fail;go_ret;exact⟨rfl,by first|exact ae|exact Zf ae _⟩):G:=h
theorem Ek{G:Prop}(h:G:=by
 go_in;go_wp2_with fail;refine(hC.out _ (by first|exact Below.refl _ _|exact Zf Below.refl _ _ _)).mono ?_;rintro e w1 ⟨rfl,ab⟩;have ae:Below w.heap.size w w1:=by first|exact ab|exact(Below.refl _ _).trans (ab.mono (Below.refl _ _).size)|exact(Zf (Below.refl _ _) _).trans (ab.mono (Below.refl _ _).size)
 clear ab;have k1:=Zb ae c0;go_wp2_with fail;go_ret;exact⟨rfl,by first|exact ae|exact Zf ae _⟩):G:=h
theorem Zlw(A B C:Option Addr)(n c m d k e0:Nat)(rs:List RI)(rr ws:List Int)(w:World)(h:MIL w A n c rs)(hr:LimI w B m d rr)(hw:LimI w C k e0 ws)(E:Int)(hE:Zd5 rs rr ws=E) :
    Calls Tryz.prog 54 #[.slice A n c,.slice B m d,.slice C k e0] w λe w'=>e=.returned (.int .i64 E)/\Below w.heap.size w w':=by
 have hl:=h.1;have c6:=h.2.1;have b5:=h.2.2.1;have a7:=hr.1;have a2:=hw.1;have c2:=hr.nlen;have b8:=hw.nlen;unfold maxLen at b5 c2 b8;replace hE:=Za hE;by_cases h12:200<n
 ·have t1:decide ((200:Int)<(n:Int))=true:=Gv Gk
  obtain rfl:E=4:=by rw[<- hE.out];exact Zpj (by unfold Zlz;rw[hl,Gv h12];rfl)
  go_in;go_wp2_with fail;go_ret;exact⟨rfl,by first|exact Qa _ _|exact Zf Qa _ _ _⟩
 have t1:decide ((200:Int)<(n:Int))=false:=Gu Gk;obtain⟨x,hx⟩:=Gz (rs.any RI.long);have a0:Zlz rs=x:=by unfold Zlz;rw[hl,Gu h12,hx];rfl
 have hC:=Za (λW1 (hb:Below w.heap.size w W1)=>Zwp A n c rs W1 (h.below hb) x hx);clear hx;replace a0:=Za a0;cases x
 case true =>
  obtain rfl:E=4:=by rw[<- hE.out];exact Zpj a0.out
  clear h;exact EH
 have u:sysB rs rr ws=false->E=8:=λhf=>by rw[<- hE.out];exact Z0v a0.out hf
 have f:sysB rs rr ws=true->E=0:=λhf=>by rw[<- hE.out];exact sysE_ok a0.out hf
 unfold sysB at u f;rw[a7,a2,hl]at u f;replace u:=Za u;replace f:=Za f;clear hE;by_cases hn0:n=0
 ·subst hn0
  obtain rfl:E=8:=u.out (by
   have:rs=[]:=Qx hl;rw[this];rfl)
  clear h f u;exact EH
 have t2:((n:Int) == 0)=false:=by simp;omega
 have c3:decide (n=0)=false:=by simpa using hn0
 obtain⟨g,o,r0,rfl,b1,c0,b4⟩:=h.at_ (i:=0) Gk;have b3:=b4.nlen;unfold maxLen at b3;have T:=n0I_at b1;clear b1 b4;rw[QI]at c0;have c5:=Zo c0;rw[T]at u f;by_cases hz:r0.n=0
 ·obtain rfl:E=8:=u.out (by rw[Gv hz];rfl)
  have t3:((r0.n:Int) == 0)=true:=by simp[hz]
  have b2:decide (r0.n=0)=true:=by simpa using hz
  clear u f;replace h:=Za h;replace T:=Za T;replace hz:=Za hz;exact Ek
 have t3:((r0.n:Int) == 0)=false:=by simpa using hz
 have b2:decide (r0.n=0)=false:=by simpa using hz
 rw[b2]at u f;replace h:=Za h;replace hl:=Za hl;replace a7:=Za a7;replace a2:=Za a2;replace T:=Za T;replace hz:=Za hz;by_cases V:k=n
 case neg =>
  have t4:((k:Int) == (n:Int))=false:=beq_eq_false_iff_ne.2 Gk;have b9:((k:Int) != (n:Int))=true:=by rw[bne,t4];rfl
  have a9:decide (k=n)=false:=by simpa using V
  obtain rfl:E=8:=u.out (by rw[a9];rfl);clear u f;replace V:=Za V;exact Ek
 have t4:((k:Int) == (n:Int))=true:=beq_iff_eq.2 Gk;have b9:((k:Int) != (n:Int))=false:=by rw[bne,t4];rfl
 have a9:decide (k=n)=true:=by simpa using V
 rw[QH,Qr,a9,Qr]at u f;replace V:=Za V;by_cases Y:m=n
 case neg =>
  have t5:((m:Int) == (n:Int))=false:=beq_eq_false_iff_ne.2 Gk;have b6:((m:Int) != (n:Int))=true:=by rw[bne,t5];rfl
  have a3:decide (m=n)=false:=by simpa using Y
  obtain rfl:E=8:=u.out (by rw[a3];rfl);clear u f;replace Y:=Za Y;exact Ek
 have t5:((m:Int) == (n:Int))=true:=beq_iff_eq.2 Gk;have b6:((m:Int) != (n:Int))=false:=by rw[bne,t5];rfl
 have a3:decide (m=n)=true:=by simpa using Y
 rw[a3,Qr]at u f;replace Y:=Za Y;obtain⟨xw,a5⟩:=Gz (Ziy 1 ws);have hW:=Za (λW1 (hb:Below w.heap.size w W1)=>Zhd C k e0 ws 1 W1 (hw.below hb) xw a5);rw[a5]at u f;clear a5 hw;cases xw
 case true =>
  obtain rfl:E=8:=u.out rfl;clear u f;go_in;go_wp2_with fail;refine(hC.out _ (by first|exact Qa _ _|exact Zf Qa _ _ _)).mono ?_;rintro e w1 ⟨rfl,ab⟩;have ae:Below w.heap.size w w1:=by first|exact ab|exact(Qa _ _).trans (ab.mono (Qa _ _).size)|exact(Zf (Qa _ _) _).trans (ab.mono (Qa _ _).size)
  clear ab;have k1:=Zb ae c0;go_wp2_with fail;refine(hW.out _ (by first|exact ae|exact Zf ae _)).mono ?_;rintro e w2 ⟨rfl,I⟩;have y:Below w.heap.size w w2:=by first|exact I|exact(ae).trans (I.mono (ae).size)|exact(Zf (ae) _).trans (I.mono (ae).size)
  clear I;have k2:=Zb y c0;go_wp2_with fail;go_ret;exact⟨rfl,by first|exact y|exact Zf y _⟩
 rw[QH,Qr]at u f;obtain⟨xr,a4⟩:=Gz (Ziy (-1099511627776) rr);have hR:=Za (λW1 (hb:Below w.heap.size w W1)=>Zhd B m d rr (-1099511627776) W1 (hr.below hb) xr a4);rw[a4]at u f;clear a4 hr;cases xr
 case true =>
  obtain rfl:E=8:=u.out rfl;clear u f;go_in;go_wp2_with fail;refine(hC.out _ (by first|exact Qa _ _|exact Zf Qa _ _ _)).mono ?_;rintro e w1 ⟨rfl,ab⟩;have ae:Below w.heap.size w w1:=by first|exact ab|exact(Qa _ _).trans (ab.mono (Qa _ _).size)|exact(Zf (Qa _ _) _).trans (ab.mono (Qa _ _).size)
  clear ab;have k1:=Zb ae c0;go_wp2_with fail;refine(hW.out _ (by first|exact ae|exact Zf ae _)).mono ?_;rintro e w2 ⟨rfl,I⟩;have y:Below w.heap.size w w2:=by first|exact I|exact(ae).trans (I.mono (ae).size)|exact(Zf (ae) _).trans (I.mono (ae).size)
  clear I;have k2:=Zb y c0;go_wp2_with fail;refine(hR.out _ (by first|exact y|exact Zf y _)).mono ?_;rintro e w3 ⟨rfl,O⟩;have U:Below w.heap.size w w3:=by first|exact O|exact(y).trans (O.mono (y).size)|exact(Zf (y) _).trans (O.mono (y).size)
  clear O;have k3:=Zb U c0;go_wp2_with fail;go_ret;exact⟨rfl,by first|exact U|exact Zf U _⟩
 rw[QH,Qr]at u f;go_in;go_wp2_with fail;refine(hC.out _ (by first|exact Qa _ _|exact Zf Qa _ _ _)).mono ?_;rintro e w1 ⟨rfl,ab⟩;have ae:Below w.heap.size w w1:=by first|exact ab|exact(Qa _ _).trans (ab.mono (Qa _ _).size)|exact(Zf (Qa _ _) _).trans (ab.mono (Qa _ _).size)
 clear ab;have k1:=Zb ae c0;go_wp2_with fail;refine(hW.out _ (by first|exact ae|exact Zf ae _)).mono ?_;rintro e w2 ⟨rfl,I⟩;have y:Below w.heap.size w w2:=by first|exact I|exact(ae).trans (I.mono (ae).size)|exact(Zf (ae) _).trans (I.mono (ae).size)
 clear I;have k2:=Zb y c0;go_wp2_with fail;refine(hR.out _ (by first|exact y|exact Zf y _)).mono ?_;rintro e w3 ⟨rfl,O⟩;have U:Below w.heap.size w w3:=by first|exact O|exact(y).trans (O.mono (y).size)|exact(Zf (y) _).trans (O.mono (y).size)
 clear O;have k3:=Zb U c0;go_wp2_with fail;clear hC hW hR ae y k1 k2
 go_loopw [50] (λiv wr=>∃ i:Nat,i<=n/\iv=.int .i64 i/\Hid (∀ j e,j<i->rs[j]?=some e->Zrs r0.n e=true)/\Below w.heap.size w wr) (λiv _=>n-(intOf iv).toNat)
 case atStart=>exact⟨0,QM _,rfl,Za (λj e hj=>by omega),(by first|exact U|exact Zf U _)⟩
 case round =>
  clear k3 U;obtain⟨i,c4,rfl,ay,J⟩:=hrel;have k0:=Zb J c0;clear c0;by_cases hin:i<n
  case neg =>
   obtain rfl:n=i:=Gk;have b7:decide ((n:Int)<(n:Int))=false:=Gh
   obtain rfl:E=0:=by
    refine f.out ?_;exact EY
   clear u;go_wp2_with fail;go_ret;exact⟨rfl,J⟩
  have b7:decide ((i:Int)<(n:Int))=true:=Gv Gk;obtain⟨g',o',r,hA,he,c1,hL⟩:=(h.out.below J).at_ hin;cases hA;have b0:=hL.nlen;unfold maxLen at b0
  have bad:Zrs r0.n r=false->E=8:=λhf=>u.out (by
   rw[List.all_eq_false];exact⟨r,Qi he,by rw[hf];decide⟩)
  have good:Zrs r0.n r=true->Hid (∀ j e,j<i+1->rs[j]?=some e->Zrs r0.n e=true):=λhf=>Za (λj e' hj he'=>by
   rcases Nat.lt_or_ge j i with h'|h';exact ay.out j e' h' he';obtain rfl:j=i:=Gk;rw[he]at he';cases he';exact hf)
  replace bad:=Za bad;replace good:=Za good;replace he:=Za he;clear u;by_cases hq:r.n=r0.n
  case neg =>
   have t6:((r.n:Int) == (r0.n:Int))=false:=beq_eq_false_iff_ne.2 Gk;have t7:((r.n:Int) != (r0.n:Int))=true:=by rw[bne,t6];rfl
   have a6:decide (r.n=r0.n)=false:=by simpa using hq
   obtain rfl:E=8:=bad.out (by unfold Zrs;rw[a6];rfl);clear hL f;go_wp2_with fail;go_ret;exact⟨rfl,by first|exact J|exact Zf J _⟩
  have t6:((r.n:Int) == (r0.n:Int))=true:=beq_iff_eq.2 Gk;have t7:((r.n:Int) != (r0.n:Int))=false:=by rw[bne,t6];rfl
  have a6:decide (r.n=r0.n)=true:=by simpa using hq
  obtain⟨x,hx⟩:=Gz (Ziy (-1099511627776) r.l);have hC:=Za (λW1 (hb:Below wr.heap.size wr W1)=>Zhd r.A r.n r.c r.l (-1099511627776) W1 (hL.below hb) x hx);replace hx:=Za hx;replace hq:=Za hq;clear hL;cases x
  ·have a8:=good.out (by unfold Zrs;rw[a6,hx.out];rfl)
   go_wp2_with fail;refine(hC.out _ (by first|exact Qa _ _|exact Zf (Qa _ _) _)).mono ?_;rintro e' w4 ⟨rfl,a1⟩;go_wp2_with fail
   go_roundw
   case rel=>exact⟨i+1,by omega,by go_num,a8,(by first|exact Gs J a1|exact(Zf J _).trans (a1.mono J.size))⟩
   case measure=>simp[intOf];omega
  obtain rfl:E=8:=bad.out (by unfold Zrs;rw[hx.out];simp);clear f;go_wp2_with fail;refine(hC.out _ (by first|exact Qa _ _|exact Zf (Qa _ _) _)).mono ?_;rintro e' w4 ⟨rfl,a1⟩;go_wp2_with fail;go_ret;exact⟨rfl,(by first|exact Gs J a1|exact(Zf J _).trans (a1.mono J.size))⟩
attribute [local go_sem] Zg Oper.semAt_some
def Zc0(ws:List Int)(a b:Nat->Int):Nat->Int
 | 0=>0
 | i+1=>Zc0 ws a b i+(ws[i]?.getD 0)*(a i*b i)
def Ziw(v:Value)(z:Int)(w:World):Prop:=∃ na A n c,v=.agg #[.bool na,.slice A n c]/\Wd w na A n c z
def numT(v:Value)(z:Int)(w:World):Prop:=∃ na A n c,v=.tuple #[.agg #[.bool na,.slice A n c],.int .i64 0]/\Wd w na A n c z
theorem Zdo{v:Value}{z:Int}{w w':World}(hb:Below w.heap.size w w')(h:Ziw v z w):Ziw v z w':=by
 obtain⟨na,A,n,c,e,hf⟩:=h;exact⟨na,A,n,c,e,hf.below hb⟩
theorem Zwa{v:Value}{z:Int}{w w':World}(hb:Below w.heap.size w w')(h:numT v z w):numT v z w':=by
 obtain⟨na,A,n,c,e,hf⟩:=h;exact⟨na,A,n,c,e,hf.below hb⟩
def Ze7(x a b s:Int)(i:Nat)(v:Value)(w:World):Prop:=
 if i=2 then Ziw v x w else if i=5 then v=.int .i64 a else if i=6 then Ziw v a w else if i=9 then v=.int .i64 b else if i=10 then Ziw v b w
 else if i=11 then Ziw v (a*b) w else if i=12 then Ziw v (x*(a*b)) w else if i=13 \/ i=14 then numT v (s+x*(a*b)) w else if i=15 then Ziw v (s+x*(a*b)) w else if i=16 then v=.int .i64 0 else True
theorem Zux{x a b s:Int}{i:Nat}{v:Value}{w w':World}(hb:Below w.heap.size w w')(h:Ze7 x a b s i v w):Ze7 x a b s i v w':=by
 unfold Ze7 at h ⊢
 split at h
 rename_i e;rw[Gx e];exact Zdo hb h;rename_i e;rw[Gw e];clear e
 split at h
 rename_i e;rw[Gx e];exact h;rename_i e;rw[Gw e];clear e
 split at h
 rename_i e;rw[Gx e];exact Zdo hb h;rename_i e;rw[Gw e];clear e
 split at h
 rename_i e;rw[Gx e];exact h;rename_i e;rw[Gw e];clear e
 split at h
 rename_i e;rw[Gx e];exact Zdo hb h;rename_i e;rw[Gw e];clear e
 split at h
 rename_i e;rw[Gx e];exact Zdo hb h;rename_i e;rw[Gw e];clear e
 split at h
 rename_i e;rw[Gx e];exact Zdo hb h;rename_i e;rw[Gw e];clear e
 split at h
 rename_i e;rw[Gx e];exact Zwa hb h;rename_i e;rw[Gw e];clear e
 split at h
 rename_i e;rw[Gx e];exact Zdo hb h;rename_i e;rw[Gw e];clear e
 split at h
 rename_i e;rw[Gx e];exact h;rename_i e;rw[Gw e];trivial
def Zi8(B0:Nat)(q:Rat)(i:Nat)(v:Value)(w:World):Prop:=
 if i=1 then Ziw v 1 w else Za1 B0 q 2 3 4 5 6 5 i v w
theorem Zwe{B0:Nat}{q:Rat}{i:Nat}{v:Value}{w w':World}(hb:Below w.heap.size w w')(h:Zi8 B0 q i v w):Zi8 B0 q i v w':=by
 unfold Zi8 at h ⊢
 split at h
 rename_i e;rw[Gx e];exact Zdo hb h;rename_i e;rw[Gw e];exact Zhu hb h
theorem Zq4{z:Int}(h:I64 z):z.natAbs<=9223372036854775808:=by unfold I64 at h;omega
theorem big6:9223372036854775808*(9223372036854775808*9223372036854775808)*1000<pw 4096:=
 Nat.lt_of_lt_of_le (show _<pw 7 from by decide) (Zb1 Gj)
theorem Zpg{a b:Int}(ha:I64 a)(hb:I64 b):(a*b).natAbs<=9223372036854775808*9223372036854775808:=by
 rw[Int.natAbs_mul];exact Nat.mul_le_mul (Zq4 ha) (Zq4 hb)
theorem Zl2{x a b:Int}(hx:I64 x)(ha:I64 a)(hb:I64 b):(x*(a*b)).natAbs<=9223372036854775808*(9223372036854775808*9223372036854775808):=by
 rw[Int.natAbs_mul];exact Nat.mul_le_mul (Zq4 hx) (Zpg ha hb)
theorem two_pw{a b:Int}(ha:I64 a)(hb:I64 b):(a*b).natAbs<pw 4096:=
 Ql (Zpg ha hb) (Nat.lt_trans Gj big6)
theorem Z3d{x a b:Int}(hx:I64 x)(ha:I64 a)(hb:I64 b):(x*(a*b)).natAbs<pw 4096:=
 Ql (Zl2 hx ha hb) (Nat.lt_trans Gj big6)
theorem Zks{l:List Int}(h:∀ x ∈ l,I64 x)(i:Nat):I64 (l[i]?.getD 0):=by
 rcases Nat.lt_or_ge i l.length with h1|h1;rw[Qm h1];exact h _ (List.getElem_mem _);rw[Qt h1];unfold I64;decide
theorem Zpm{ws:List Int}{a b:Nat->Int}(hw:∀ x ∈ ws,I64 x):∀ (i:Nat),(∀ j,j<i->I64 (a j)/\I64 (b j))->(Zc0 ws a b i).natAbs<=9223372036854775808*(9223372036854775808*9223372036854775808)*i
 | 0,_=>by simp[Zc0]
 | i+1,h=>by
  have h1:=Zpm hw i (λj hj=>h j Gk);have h2:=Zl2 (Zks hw i) (h i Gk).1 (h i Gk).2;have h3:=Int.natAbs_add_le (Zc0 ws a b i) ((ws[i]?.getD 0)*(a i*b i));rw[Nat.mul_add,Nat.mul_one];show (Zc0 ws a b i+(ws[i]?.getD 0)*(a i*b i)).natAbs<=_;exact Qe h3 (Nat.add_le_add h1 h2)
theorem dotZ_pw{ws:List Int}{a b:Nat->Int}(hw:∀ x ∈ ws,I64 x){i:Nat}(hi:i<=1000)(h:∀ j,j<i->I64 (a j)/\I64 (b j)):(Zc0 ws a b i).natAbs<pw 4096:=
 Ql (Zpm hw i h) (Ql (Nat.mul_le_mul_left _ hi) big6)
theorem Wd.same{w:World}{na:Bool}{A:Option Addr}{n c:Nat}{y z:Int}(h:Wd w na A n c y)(e:y=z):Wd w na A n c z:=e▸h
theorem Zkx(z:Int):Rat.divInt z 1=(z:Rat):=by
 exact FG
theorem dot2{x a b s:Int}{v:Value}{w:World}(h:Ze7 x a b s 2 v w):Ziw v x w:=h
theorem dot5{x a b s:Int}{v:Value}{w:World}(h:Ze7 x a b s 5 v w):v=.int .i64 a:=h
theorem dot6{x a b s:Int}{v:Value}{w:World}(h:Ze7 x a b s 6 v w):Ziw v a w:=h
theorem dot9{x a b s:Int}{v:Value}{w:World}(h:Ze7 x a b s 9 v w):v=.int .i64 b:=h
theorem dot10{x a b s:Int}{v:Value}{w:World}(h:Ze7 x a b s 10 v w):Ziw v b w:=h
theorem dot11{x a b s:Int}{v:Value}{w:World}(h:Ze7 x a b s 11 v w):Ziw v (a*b) w:=h
theorem dot12{x a b s:Int}{v:Value}{w:World}(h:Ze7 x a b s 12 v w):Ziw v (x*(a*b)) w:=h
theorem dot13{x a b s:Int}{v:Value}{w:World}(h:Ze7 x a b s 13 v w):numT v (s+x*(a*b)) w:=h
theorem dot14{x a b s:Int}{v:Value}{w:World}(h:Ze7 x a b s 14 v w):numT v (s+x*(a*b)) w:=h
theorem dot15{x a b s:Int}{v:Value}{w:World}(h:Ze7 x a b s 15 v w):Ziw v (s+x*(a*b)) w:=h
theorem dot16{x a b s:Int}{v:Value}{w:World}(h:Ze7 x a b s 16 v w):v=.int .i64 0:=h
theorem end1{B0:Nat}{q:Rat}{v:Value}{w:World}(h:Zi8 B0 q 1 v w):Ziw v 1 w:=h
theorem EQ{G:Prop}(h:G:=by
 rintro e w5 ⟨ao,cu,A5,k5,c5,rfl,ax⟩;exact hK.out _ _ ⟨_,rfl,(by simp only[Ze7];exact⟨_,_,_,_,rfl,ax⟩),ao,trivial⟩):G:=h
theorem Zx0(Fa Fb:FuncId)(V U:Array Value)(A:Option Addr)(n c:Nat)(ws:List Int)(a b:Nat->Int)(w:World)(h:LimI w A n c ws)(hn:n<=900)
    (ha:∀ i,i<n->I64 (a i)) (hb:∀ i,i<n->I64 (b i))
    (hca:∀ (x:Value) (W:World),(callFunc Fa (#[x]++V)).run Tryz.prog W=.ok (.enter Fa (#[x]++V)) W)
    (hcb:∀ (x:Value) (W:World),(callFunc Fb (#[x]++U)).run Tryz.prog W=.ok (.enter Fb (#[x]++U)) W)
    (hA:∀ (W:World) (i:Nat),Below w.heap.size w W->i<n->Calls Tryz.prog Fa (#[.int .i64 i]++V) W λe W'=>e=.returned (.int .i64 (a i))/\Below W.heap.size W W')
    (hB:∀ (W:World) (i:Nat),Below w.heap.size w W->i<n->Calls Tryz.prog Fb (#[.int .i64 i]++U) W λe W'=>e=.returned (.int .i64 (b i))/\Below W.heap.size W W') :
    Calls Tryz.prog 94 #[.slice A n c,.func (.func Fa) #[] V,.func (.func Fb) #[] U] w (Zdl w ((Zc0 ws a b n:Int):Rat)):=by
 have hmx:=Gt;have f6:=h.1;have f7:=h.2.1;have f0:=h.2.2.1;unfold maxLen at f0;have e1:=Za h.2.2.2.1;have hg:=Za h.2.2.2.2;replace hA:=Za hA;replace hB:=Za hB;have e4:=Za ha;have d6:=Za hb;clear h ha hb;obtain⟨W0,e3,e5,⟨q0,q1⟩,s0⟩:=Zef w 41 #[.bool false,.slice none 0 0,.bool false,.slice none 0 0] 39 #[.bool false,.slice none 0 0];obtain⟨gr,a3⟩:=Gz w.heap.size;rw[a3]at q0 q1;obtain⟨gs,a4⟩:=Gz (gr+1);rw[a4]at q1;have f5:w.heap.size<=gr:=Gk;have e0:w.heap.size<=gs:=Gk;have e2:gr≠gs:=Gk;have d7:Wd W0 false none 0 0 0:=Wd.zero _;go_in;go_wp2_with fail;(try rw[e3]);(try rw[a3]);(try rw[a4]);replace a3:=Za a3;replace a4:=Za a4;clear e3 s0
 go_loopw [14] (λiv wr=>∃ (i:Nat) (sn:Bool) (sA:Option Addr) (sk sc:Nat),i<=n/\iv=.int .i64 i/\Wd wr sn sA sk sc (Zc0 ws a b i)/\Blk wr gs 39 #[.bool sn,.slice sA sk sc]/\Blk wr gr 41 #[.bool false,.slice none 0 0,.bool false,.slice none 0 0]/\Below w.heap.size w wr) (λiv _=>n-(intOf iv).toNat)
 case atStart=>exact⟨0,false,none,0,0,QM _,rfl,d7,q1,q0,e5⟩
 case round =>
  clear q0 q1 e5 d7;obtain⟨i,sn,sA,sk,sc,f8,rfl,hs,qs,qr,I⟩:=hrel;obtain⟨s0,s1,s2,s3⟩:=qs.two;replace hs:=Za hs;replace qs:=Za qs;replace qr:=Za qr;by_cases hin:i<n
  case neg =>
   obtain rfl:n=i:=Gk;have f3:decide ((n:Int)<(n:Int))=false:=Gh;generalize Zc0 ws a b n=D at *;go_wp2_with fail;have J:Hid (∀ wx,Below wr.heap.size wr wx->wx.cell? ⟨gs,0,none⟩=some (.bool sn)/\wx.cell? ⟨gs,1,none⟩=some (.slice sA sk sc)):=Za (λwx f=>⟨Zb f s0,Zb f s1⟩);have C:Below wr.heap.size wr wr.drew:=Zf (Qa _ _) 1;refine wp_heldS [] hmx J C (λhxs2=>?_);refine Zke 1 [0] rfl Gi (J.out _ C) ?_
   (refine tkA ?_;try simp only[Qd,Zhf,Zgs,Zg9,Gr,Gq,Gp])
   refine tk0 ?_;refine Za8 [(1,39),(2,40),(3,37),(4,41),(6,10)] (λi=>match i with|3=>[5]|_=>[]) [(1,39),(2,40),(3,37),(5,42),(4,41),(6,10)] (Zi8 wr.heap.size (D:Rat)) 2 Gi (λ_ _ _ _ _ hb h=>Zwe hb h) (λwx h=>J.out _ (Gs C h)) ?hop2 ?hfin2
   case hop2 =>
    intro p hp;simp only[Qz,Qs,or_false]at hp;simp only[Qg,Qj,Zap,Qd,Zhf,Zgs,Zg9];rcases hp with rfl|rfl|rfl|rfl|rfl
    ·intro ν wx hb hP
     refine Zm (i:=1) rfl (λK hK=>?_);go_simp;refine(Zb2 1 wx Gj Gj).mono ?_;rintro e w5 ⟨ao,cu,A5,k5,c5,rfl,ax⟩;exact hK.out _ _ ⟨_,rfl,(by simp only[Zi8,Za1];exact⟨_,_,_,_,rfl,ax⟩),ao,trivial⟩
    ·intro ν wx hb hP
     have f:=Gs C hb;have h3:=end1 (hP (1,39) Gh Gi);obtain⟨a2,A3,k3,c3,hν3,O⟩:=h3;rw[hν3];obtain rfl:a2=false:=O.1;refine Zm (i:=2) rfl (λK hK=>?_);go_simp;refine(Zgo sn sA A3 sk sc k3 c3 D 1 wx (hs.out.below f) O Gj).mono ?_;rintro e w5 ⟨ao,cu,A5,k5,c5,e6,B5,m5,d5,rfl,ax⟩;rw[Zkx]at ax;exact hK.out _ _ ⟨_,rfl,(by simp only[Zi8,Za1];exact⟨_,_,_,_,_,_,_,_,rfl,ax⟩),ao,trivial⟩
    ·intro ν wx hb hP
     have h0:=hP (2,40) Gh Gi;simp only[Zi8,Za1]at h0;obtain⟨cu,A5,k5,c5,e6,B5,m5,d5,hν,ax⟩:=h0;rw[hν];refine Zm (i:=3) rfl (λK hK=>?_);go_simp;refine hK.out _ _ ⟨_,rfl,(by simp only[Zi8,Za1];exact⟨_,_,_,_,_,_,_,_,rfl,ax⟩),Qa _ _,?_⟩;exact⟨_,.int .i64 0,rfl,Or.inl ⟨by kernel_rfl,λW2 _=>by go_simp⟩,by simp[Zi8,Za1],trivial⟩
    ·intro ν wx hb hP
     have h0:=hP (3,37) Gh Gi;simp only[Zi8,Za1]at h0;obtain⟨cu,A5,k5,c5,e6,B5,m5,d5,hν,ax⟩:=h0;rw[hν];refine Zm (i:=4) rfl (λK hK=>?_);go_simp;exact hK.out _ _ ⟨_,rfl,(by simp only[Zi8,Za1];exact⟨_,_,_,_,_,_,_,_,rfl,ax⟩),Qa _ _,trivial⟩
    intro ν wx hb hP;refine Zm (i:=6) rfl (λK hK=>?_);go_simp;exact hK.out _ _ ⟨_,rfl,(by simp only[Zi8,Za1];exact⟨_,rfl,(Gs C hb).size,QS _ _ _⟩),(Qa _ _).alloc (Qh _) _,trivial⟩
   case hfin2 =>
    intro ν wx hb hP;have h0:=end1 (hP (1,39) Gh);have h1:=hP (2,40) Gh;have h2:=hP (3,37) Gh;have h3:=hP (5,42) Gh;have h4:=hP (4,41) Gh;have h5:=hP (6,10) Gh;simp only[Zi8,Za1]at h1 h2 h4 h5;obtain⟨_,_,_,_,h0,-⟩:=h0;obtain⟨_,_,_,_,_,_,_,_,h1,-⟩:=h1;obtain⟨_,_,_,_,_,_,_,_,h2,-⟩:=h2;obtain⟨fn,fA,fk,fc,fm,fB,fj,fd,h4,d9⟩:=h4;obtain⟨gv,h5,kv,qv⟩:=h5;simp only[Qg,Qj,Zap,Qd,Zhf,Zgs,Zg9];rw[h0,h1,h2,(show ν 42=Value.int .i64 0 by simpa [Zi8,Za1]using h3),h4,h5];clear h0 h1 h2 h3 h4 h5 hP ν;have f:=Gs C hb;have a9:=Zc f qr.out;have d8:gr≠gv:=by have:=qr.out.lt;omega
    obtain⟨V,hV,f4,q6,kV⟩:=Z7 (B:=gv) fn fA fk fc fm fB fj fd (Qa gv wx) (Qh _) qv
    have a8:Below w.heap.size w V:=by
     rw[<- hV];have b8:w.heap.size<=gv:=Qe I.size kv;exact((((Gs I f).setCell (p:=⟨gv,0,none⟩) b8 _).setCell (p:=⟨gv,1,none⟩) b8 _).setCell (p:=⟨gv,2,none⟩) b8 _).setCell (p:=⟨gv,3,none⟩) b8 _
    have c7:Hid (Below wr.heap.size wr V):=Za (by rw[<- hV];exact(((f.setCell (p:=⟨gv,0,none⟩) kv _).setCell (p:=⟨gv,1,none⟩) kv _).setCell (p:=⟨gv,2,none⟩) kv _).setCell (p:=⟨gv,3,none⟩) kv _);have c6:=Za (Fr.keep d9 kV.1);have Y:=kV.2.1 gr _ _ d8 a9;obtain⟨y0,y1,y2,y3,y4,y5,y6,y7⟩:=qv.four;replace q6:=Za q6;replace Y:=Za Y;replace a8:=Za a8;clear d9 kV a9 f4 qv;refine wpAnyL_o 7 λK hK=>?_;go_simp;(try rw[hV]);refine hK.out _ _ (λ_=>J.out _ (c7.out)) ?_;clear hK K
    try simp only[Qd,Zhf,Zgs,Zg9]
    refine Zgt 1 [8] rfl Gi (J.out _ c7.out) ?_
    (refine tkA ?_;try simp only[Qd,Zhf,Zgs,Zg9,Gr,Gq,Gp])
    refine tk0 ?_;refine wpAnyL_fin ?_;clear hV y0 y1 y2 y3 y4 y5 y6 y7 f hb C J hxs2 s0 s1 c7;obtain⟨z0,z1,z2,z3,-⟩:=q6.out.four;obtain⟨r0,r1,r2,r3,r4,r5,r6,r7⟩:=Y.out.four;go_wp2_with fail;obtain⟨X,hX,e8,q8,st⟩:=Z7 fn fA fk fc fm fB fj fd a8.out f5 Y.out;(try rw[hX]);obtain⟨x0,x1,x2,x3,-⟩:=q8.four;refine bodyPost_ret (v:=.agg #[.bool fn,.slice fA fk fc,.bool fm,.slice fB fj fd]) (by simp[results,Tryz.results94,go_sem,x0,x1,x2,x3]) rfl ?_;exact⟨e8,_,_,_,_,_,_,_,_,rfl,Fr.keep c6.out st.1⟩
  have f3:decide ((i:Int)<(n:Int))=true:=Gv Gk;obtain⟨g,o,rfl,d0⟩:=hg.out Gk;have ci:=(I.cell (Zo (d0 i hin))).trans (d0 i hin);clear d0;have hx:=Zks e1.out i;have ha:=e4.out i hin;have a6:=d6.out i hin;have a1:(Zc0 ws a b i+(ws[i]?.getD 0)*(a i*b i)).natAbs<pw 4096:=dotZ_pw (i:=i+1) e1.out Gk (λj hj=>⟨e4.out j Gk,d6.out j Gk⟩);have y:Zc0 ws a b (i+1)=Zc0 ws a b i+(ws[i]?.getD 0)*(a i*b i):=rfl;rw[<- y]at a1;replace y:=Za y;obtain⟨x,c2⟩:=Gz (ws[i]?.getD 0);obtain⟨a0,b1⟩:=Gz (a i);obtain⟨b0,b2⟩:=Gz (b i);obtain⟨s,c9⟩:=Gz (Zc0 ws a b i);replace y:=y.out;rw[c2,b1,b2,c9]at y;rw[y]at a1;rw[c2]at hx ci;rw[b1]at ha;rw[b2]at a6;rw[c9]at hs;replace a1:=Za a1;replace y:=Za y;replace b1:=Za b1;replace b2:=Za b2;clear c2 c9;go_wp2_with fail;have T:Hid (∀ wx,Below wr.heap.size wr wx->wx.cell? ⟨g,o+i,none⟩=some (.int .i64 x)/\wx.cell? ⟨gs,0,none⟩=some (.bool sn)/\wx.cell? ⟨gs,1,none⟩=some (.slice sA sk sc)):=Za (λwx f=>⟨Zb f ci,Zb f s0,Zb f s1⟩);have u:Below wr.heap.size wr wr.drew:=Zf (Qa _ _) 1;refine wp_heldS [17] hmx T u (λhxs1=>?_);refine Zke 1 [0] rfl Gi (T.out _ u) ?_
  (refine tkA ?_;try simp only[Qd,Zhf,Zgs,Zg9,Gr,Gq,Gp])
  refine tk0 ?_;refine Zgt 5 [1,3,4,7,8] rfl Gi (T.out _ u) ?_
  iterate 5 (refine tkA ?_;try simp only[Qd,Zhf,Zgs,Zg9,Gr,Gq,Gp])
  refine tk0 ?_;refine Za8 [(2,22),(5,25),(6,26),(9,29),(10,30),(11,31),(12,32),(13,33),(14,19)] (λi=>match i with|14=>[15,16]|_=>[]) [(2,22),(5,25),(6,26),(9,29),(10,30),(11,31),(12,32),(13,33),(14,19),(15,34),(16,35)] (Ze7 x a0 b0 s) 1 Gi (λ_ _ _ _ _ hb h=>Zux hb h) (λwx h=>T.out _ (Gs u h)) ?hop1 ?hfin1
  case hop1 =>
   intro p hp;simp only[Qz,Qs,or_false]at hp;simp only[Qg,Qj,Zap,Qd,Zhf,Zgs,Zg9];rcases hp with rfl|rfl|rfl|rfl|rfl|rfl|rfl|rfl|rfl
   ·intro ν wx hb hP
    have f:=Gs u hb;refine Zm (i:=2) rfl (λK hK=>?_);go_simp;refine(Zb2 x wx hx.1 hx.2).mono ?_;exact EQ
   ·intro ν wx hb hP
    have f:=Gs u hb;refine Zm (i:=5) rfl (λK hK=>?_);go_simp;refine(hA.out wx i (Gs I f) hin).mono ?_;rintro e w5 ⟨rfl,ao⟩;exact hK.out _ _ ⟨_,rfl,(show Value.int .i64 _=Value.int .i64 _ from by rw[b1.out]),ao,trivial⟩
   ·intro ν wx hb hP
    have f:=Gs u hb;have h3:=hP (5,25) Gh Gi;replace h3:=dot5 h3;rw[h3];refine Zm (i:=6) rfl (λK hK=>?_);go_simp;refine(Zb2 a0 wx ha.1 ha.2).mono ?_;exact EQ
   ·intro ν wx hb hP
    have f:=Gs u hb;refine Zm (i:=9) rfl (λK hK=>?_);go_simp;refine(hB.out wx i (Gs I f) hin).mono ?_;rintro e w5 ⟨rfl,ao⟩;exact hK.out _ _ ⟨_,rfl,(show Value.int .i64 _=Value.int .i64 _ from by rw[b2.out]),ao,trivial⟩
   ·intro ν wx hb hP
    have f:=Gs u hb;have h3:=hP (9,29) Gh Gi;replace h3:=dot9 h3;rw[h3];refine Zm (i:=10) rfl (λK hK=>?_);go_simp;refine(Zb2 b0 wx a6.1 a6.2).mono ?_;exact EQ
   ·intro ν wx hb hP
    have f:=Gs u hb;have h3:=hP (6,26) Gh Gi;replace h3:=dot6 h3;obtain⟨a2,A3,k3,c3,hν3,O⟩:=h3;rw[hν3];have h4:=hP (10,30) Gh Gi;replace h4:=dot10 h4;obtain⟨a5,A4,k4,c4,hν4,a7⟩:=h4;rw[hν4];refine Zm (i:=11) rfl (λK hK=>?_);go_simp;refine(Zir a2 a5 A3 A4 k3 c3 k4 c4 _ _ wx O a7 (two_pw ha a6)).mono ?_;exact EQ
   ·intro ν wx hb hP
    have f:=Gs u hb;have h3:=hP (2,22) Gh Gi;replace h3:=dot2 h3;obtain⟨a2,A3,k3,c3,hν3,O⟩:=h3;rw[hν3];have h4:=hP (11,31) Gh Gi;replace h4:=dot11 h4;obtain⟨a5,A4,k4,c4,hν4,a7⟩:=h4;rw[hν4];refine Zm (i:=12) rfl (λK hK=>?_);go_simp;refine(Zir a2 a5 A3 A4 k3 c3 k4 c4 _ _ wx O a7 (Z3d hx ha a6)).mono ?_;exact EQ
   ·intro ν wx hb hP
    have f:=Gs u hb;have h4:=hP (12,32) Gh Gi;replace h4:=dot12 h4;obtain⟨a5,A4,k4,c4,hν4,a7⟩:=h4;rw[hν4];refine Zm (i:=13) rfl (λK hK=>?_);go_simp;refine(Zle sn a5 sA A4 sk sc k4 c4 _ _ wx (hs.out.below f) a7).mono ?_;rintro e w5 ⟨ao,cu,A5,k5,c5,code,rfl,hR⟩;rcases hR with ⟨_,rfl,ax⟩|⟨e7,_⟩;exact hK.out _ _ ⟨_,rfl,(by simp only[Ze7];exact⟨_,_,_,_,rfl,ax⟩),ao,trivial⟩;exact absurd e7 (Nat.not_le.2 a1.out)
   intro ν wx hb hP;have f:=Gs u hb;have h3:=hP (13,33) Gh Gi;replace h3:=dot13 h3;obtain⟨a2,A3,k3,c3,hν3,O⟩:=h3;rw[hν3];refine Zm (i:=14) rfl (λK hK=>?_);go_simp;refine hK.out _ _ ⟨_,rfl,(by simp only[Ze7];exact⟨_,_,_,_,rfl,O⟩),Qa _ _,?_⟩;refine⟨_,.agg #[.bool a2,.slice A3 k3 c3],rfl,Or.inl ⟨by kernel_rfl,λW2 _=>by go_simp⟩,(by simp only[Ze7];exact⟨_,_,_,_,rfl,O⟩),?_⟩;exact⟨_,.int .i64 0,rfl,Or.inl ⟨by kernel_rfl,λW2 _=>by go_simp⟩,rfl,trivial⟩
  case hfin1 =>
   intro ν wx hb hP;have h2:=dot2 (hP (2,22) Gh);have h5:=dot5 (hP (5,25) Gh);have h6:=dot6 (hP (6,26) Gh);have h9:=dot9 (hP (9,29) Gh);have b6:=dot10 (hP (10,30) Gh);have b9:=dot11 (hP (11,31) Gh);have b7:=dot12 (hP (12,32) Gh);have b3:=dot13 (hP (13,33) Gh);have b4:=dot14 (hP (14,19) Gh);have b5:=dot15 (hP (15,34) Gh);have d4:=dot16 (hP (16,35) Gh);obtain⟨_,_,_,_,h2,-⟩:=h2;obtain⟨_,_,_,_,h6,-⟩:=h6;obtain⟨_,_,_,_,b6,-⟩:=b6;obtain⟨_,_,_,_,b9,-⟩:=b9;obtain⟨_,_,_,_,b7,-⟩:=b7;obtain⟨_,_,_,_,b3,-⟩:=b3;obtain⟨_,_,_,_,b4,-⟩:=b4;obtain⟨n5,A5,k5,c5,b5,ax⟩:=b5;simp only[Qg,Qj,Zap,Qd,Zhf,Zgs,Zg9];rw[h2,h5,h6,h9,b6,b9,b7,b3,b4,b5,d4];clear h2 h5 h6 h9 b6 b9 b7 b3 b4 b5 d4 hP ν;have f:=Gs u hb;have c8:=Zc f qs.out;have a9:=Zc f qr.out;obtain⟨W6,c0,e9,q6,c1⟩:=Za0 (B:=gs) n5 A5 k5 c5 (Qa gs wx) (Qh _) c8
   have d3:Below w.heap.size w W6:=by
    rw[<- c0];exact((Gs I f).setCell (p:=⟨gs,0,none⟩) e0 _).setCell (p:=⟨gs,1,none⟩) e0 _
   have c6:=Za (c1.1 _ _ _ _ _ ax);have Y:=c1.2.1 gr _ _ e2 a9;obtain⟨y0,y1,y2,y3⟩:=c8.two;replace q6:=Za q6;replace Y:=Za Y;replace d3:=Za d3;clear ax c1 c8 a9 e9;refine Zu (i:=17) rfl Gi Gi (λK hK=>?_);go_simp;(try rw[c0]);refine hK.out _ _ ?_;clear hK K
   try simp only[Qd,Zhf,Zgs,Zg9]
   refine wpAnyL_fin ?_;clear c0 y0 y1 y2 y3 f hb u T hxs1 ci s0 s1;go_wp2_with fail
   go_roundw
   case rel=>exact⟨i+1,n5,A5,k5,c5,by omega,by go_num,c6.out.same y.out.symm,q6.out,Y.out,d3.out⟩
   case measure=>simp[intOf];omega
def Zdy(f:Nat->List Rat)(n i t:Nat):List (List Rat):=(Qp n).map λj=>if j<i then f j else if j=i then (f j).take t else []
theorem Zyo(f:Nat->List Rat)(n i t:Nat):(Zdy f n i t).length=n:=by unfold Zdy;simp
theorem Zpr{f:Nat->List Rat}{n i t j:Nat}(hj:j<n):(Zdy f n i t)[j]?.getD []=if j<i then f j else if j=i then (f j).take t else []:=by
 unfold Zdy;rw[Qc,Qk hj];rfl
theorem Zwf(f:Nat->List Rat)(n:Nat):Zdy f n 0 0=Qb n []:=by
 unfold Zdy;apply QK;intro j;rw[Qc];by_cases hj:j<n;rw[Qk hj,Qv,Gw (Nat.not_lt_zero _),QT,ite_self,Qf,Gx hj];rw[Qt (by simpa using hj),Qf,Gw hj];rfl
theorem Zu1{f:Nat->List Rat}{n i t:Nat}(h:(f i).length<=t):Zdy f n i t=Zdy f n (i+1) 0:=by
 unfold Zdy;refine Qy λj hj=>?_;rcases Nat.lt_trichotomy j i with h1|h1|h1;rw[Gx h1,Gx Gk];subst h1;rw[Gw (QA _),Gx rfl,Gx Gk,QE h];rw[Gw Gk,Gw Gk,Gw Gk,QT,ite_self]
theorem Zzl(f:Nat->List Rat)(n:Nat):Zdy f n n 0=(Qp n).map f:=by
 unfold Zdy;refine Qy λj hj=>?_;rw[Gx (by simpa using hj)]
theorem Zpe{f:Nat->List Rat}{n i t:Nat}{x:Rat}(hi:i<n)(hx:(f i)[t]?=some x):(Zdy f n i t).set i ((Zdy f n i t)[i]?.getD [] ++ [x])=Zdy f n i (t+1):=by
 apply QK;intro j;rw[List.getElem?_set,Zyo,Zpr hi,Gw (QA _),Gx rfl];by_cases hij:i=j
 ·subst hij
  rw[Gx rfl,Gx hi];unfold Zdy;rw[Qc,Qk hi,Qv,Gw (QA _),Gx rfl,QL,hx];rfl
 rw[Gw hij];unfold Zdy;rw[Qc,Qc];by_cases hj:j<n
 ·rw[Qk hj]
  simp only[Qv,Option.some.injEq];by_cases h:j<i;rw[Gx h,Gx h];rw[Gw h,Gw h,Gw Gk,Gw Gk]
 rw[Qt (by simpa using hj)];rfl
def Zcg(rs:List RI)(k i:Nat):Int:=((rs[i]?.map RI.l).getD [])[k]?.getD 0
def Zjy(l:List Int)(i:Nat):Int:=l[i]?.getD 0
def Zf6(rs:List RI)(rr ws:List Int)(n m i:Nat):List Rat:=(Qp m).map (λk=>((Zc0 ws (Zcg rs i) (Zcg rs k) n:Int):Rat)) ++ [((Zc0 ws (Zcg rs i) (Zjy rr) n:Int):Rat)]
def Zpl(rs:List RI)(rr ws:List Int)(n m:Nat):List (List Rat):=(Qp m).map (Zf6 rs rr ws n m)
theorem Zk7(rs:List RI)(rr ws:List Int)(n m i:Nat):(Zf6 rs rr ws n m i).length=m+1:=by unfold Zf6;simp
theorem Z3a{rs:List RI}{rr ws:List Int}{n m i k:Nat}(h:k<m):(Zf6 rs rr ws n m i)[k]?=some ((Zc0 ws (Zcg rs i) (Zcg rs k) n:Int):Rat):=by
 unfold Zf6;rw[Qo (by simpa using h),Qc,Qk h];rfl
theorem Zzw{rs:List RI}{rr ws:List Int}{n m i:Nat}:(Zf6 rs rr ws n m i)[m]?=some ((Zc0 ws (Zcg rs i) (Zjy rr) n:Int):Rat):=by
 unfold Zf6;rw[QB Gh];simp
theorem colI_at{rs:List RI}{i k:Nat}{r:RI}(h:rs[i]?=some r):Zcg rs k i=r.l[k]?.getD 0:=by unfold Zcg;rw[h];rfl
theorem MIL.i64{w:World}{A:Option Addr}{n c:Nat}{rs:List RI}(h:MIL w A n c rs)(k i:Nat):I64 (Zcg rs k i):=by
 unfold Zcg;cases hr:rs[i]? with
 | none=>unfold I64;simp
 | some r=>exact Zks (h.2.2.2.1 r (Qi hr)).2.2.2.1 k
def colG(gR:Nat)(k:Nat)(v:Value)(w:World):Prop:=∃ g,v=.func (.func 92) #[] #[.pointer (some ⟨gR,0,none⟩),.pointer (some ⟨g,0,none⟩)]/\Blk w g 3 #[.int .i64 k]
def fracG(v:Value)(q:Rat)(w:World):Prop:=∃ na A n c nb B m d,v=.agg #[.bool na,.slice A n c,.bool nb,.slice B m d]/\Fr w na A n c nb B m d q
theorem Zni{gR k:Nat}{v:Value}{w w':World}(hb:Below w.heap.size w w')(h:colG gR k v w):colG gR k v w':=by
 obtain⟨g,e,h1⟩:=h;exact⟨g,e,Zc hb h1⟩
theorem Ztg{v:Value}{q:Rat}{w w':World}(hb:Below w.heap.size w w')(h:fracG v q w):fracG v q w':=by
 exact Fc
def Zi7(c1 c2 dt:Nat)(gR i k:Nat)(q:Rat)(j:Nat)(v:Value)(w:World):Prop:=if j=c1 then colG gR i v w else if j=c2 then colG gR k v w else if j=dt then fracG v q w else True
theorem Znr{c1 c2 dt gR i k:Nat}{q:Rat}{j:Nat}{v:Value}{w w':World}(hb:Below w.heap.size w w')(h:Zi7 c1 c2 dt gR i k q j v w):Zi7 c1 c2 dt gR i k q j v w':=by
 unfold Zi7 at h ⊢
 split at h
 rename_i e;rw[Gx e];exact Zni hb h;rename_i e;rw[Gw e];clear e
 split at h
 rename_i e;rw[Gx e];exact Zni hb h;rename_i e;rw[Gw e];clear e
 split at h
 rename_i e;rw[Gx e];exact Ztg hb h;rename_i e;rw[Gw e];trivial
theorem Zln(x y z:Value)(W:World):(callFunc 92 #[x,y,z]).run Tryz.prog W=.ok (.enter 92 #[x,y,z]) W:=by simp[go_sem]
theorem Zws(x y:Value)(W:World):(callFunc 93 #[x,y]).run Tryz.prog W=.ok (.enter 93 #[x,y]) W:=by simp[go_sem]
theorem Zlb(gR k:Nat)(w:World) :
    Calls Tryz.prog 91 #[.int .i64 k,.pointer (some ⟨gR,0,none⟩)] w λe w'=>∃ v,e=.returned v/\Below w.heap.size w w'/\colG gR k v w':=by
 obtain⟨W0,h,f,q0,s0⟩:=Zam w 3 #[.int .i64 k];go_in;go_wp2_with fail;(try rw[h]);go_ret;exact⟨_,rfl,f,_,rfl,q0⟩
theorem Zjx(A:Option Addr)(n c m:Nat)(rs:List RI)(gR g k i:Nat)(w:World)(h:MIL w A n c rs)(hR:w.cell? ⟨gR,0,none⟩=some (.slice A n c))(hg:w.cell? ⟨g,0,none⟩=some (.int .i64 k))(hi:i<n)(hk:k<m)(hm:∀ r ∈ rs,r.n=m)(hm9:m<=900)(hn9:n<=900) :
    Calls Tryz.prog 92 #[.int .i64 i,.pointer (some ⟨gR,0,none⟩),.pointer (some ⟨g,0,none⟩)] w λe w'=>e=.returned (.int .i64 (Zcg rs k i))/\Below w.heap.size w w':=by
 obtain⟨ga,oa,r,rfl,hr,c0,hL⟩:=h.at_ hi;have u:=hm r (Qi hr);have hl:=hL.1;obtain⟨gb,ob,o,f⟩:=hL.2.2.2.2 Gk;have c1:=f k Gk;rw[colI_at hr];rw[o,u]at c0;obtain⟨z,hz⟩:=Gz (r.l[k]?.getD 0);rw[hz]at c1 ⊢;clear hz;have b1:(i:Int)<(n:Int):=Gk;have b2:(k:Int)<(m:Int):=Gk;clear h hL f hr hm;go_in;go_wp2_with fail
 go_quiet (fail)
 exact Fo
theorem side_ok(B:Option Addr)(n d:Nat)(rr:List Int)(gT i:Nat)(w:World)(h:LimI w B n d rr)(hT:w.cell? ⟨gT,0,none⟩=some (.slice B n d))(hi:i<n)(hn9:n<=900) :
    Calls Tryz.prog 93 #[.int .i64 i,.pointer (some ⟨gT,0,none⟩)] w λe w'=>e=.returned (.int .i64 (Zjy rr i))/\Below w.heap.size w w':=by
 obtain⟨gb,ob,rfl,f⟩:=h.2.2.2.2 Gk;have c1:=f i hi;have b1:(i:Int)<(n:Int):=Gk;unfold Zjy;clear h f;go_in;exact Fo
theorem Cv{G:Prop}(h:G:=by
 obtain⟨cs,a1,-,-⟩:=ai base e;obtain⟨⟨zs,a2⟩,-⟩:=cO;exact gE (a2.type a1)):G:=h
theorem Im{G:Prop}(h:G:=by
 rw[World.frozen?_of_block (bE.block base (by obtain⟨⟨zs,a2⟩,-⟩:=cO;exact a2.lt) (λe=>cf e.symm))];exact(cO.cell dZ).2):G:=h
theorem Iz{G:Prop}(h:G:=by
 rintro e w5 ⟨ao,cu,A5,k5,c5,ee,B5,m5,d5,rfl,ax⟩;exact hK.out _ _ ⟨_,rfl,(by simp only[Zi7];exact⟨_,_,_,_,_,_,_,_,rfl,ax⟩),ao,trivial⟩):G:=h
theorem FT{G:Prop}(h:G:=by
 rintro e w5 ⟨v5,rfl,ao,jx⟩;exact hK.out _ _ ⟨_,rfl,(by simp only[Zi7];exact jx),ao,trivial⟩):G:=h
theorem CF{G:Prop}(h:G:=by
 intro ν wx hb hP;refine Zm (i:=9) rfl (λK hK=>?_);go_simp;refine(Zlb gR i wx).mono ?_;exact FT):G:=h
theorem Zur(A B C:Option Addr)(n c d e0 m:Nat)(rs:List RI)(rr ws:List Int)(w:World)(h:MIL w A n c rs)(hr:LimI w B n d rr)(hw:LimI w C n e0 ws)(hn0:0<n)(hn9:n<=900)(hm0:0<m)(hm9:m<=900)(a3:∀ r ∈ rs,r.n=m) :
    Calls Tryz.prog 55 #[.slice A n c,.slice B n d,.slice C n e0] w λe w'=>∃ go rs',e=.returned (.slice (some ⟨go,0,none⟩) m m)/\Below w.heap.size w w'/\rs'.length=m/\∃ base,w.heap.size<=base/\MatA 35 41 w' base go rs' (Zpl rs rr ws n m):=by
 have hmx:=Gt;have gE:(35:TypeId)≠41:=Gj;obtain⟨iF,hi,e5,f9,f5⟩:=info_parts Zd6;obtain⟨iS,ki,h0,g5,h6⟩:=info_parts Zhb;obtain⟨V0,g8,a7,⟨p0,p1⟩,sV⟩:=Zef w 22 #[.slice A n c] 23 #[.slice B n d];obtain⟨gR,d4⟩:=Gz w.heap.size;rw[d4]at p0 p1;obtain⟨gT,d9⟩:=Gz (gR+1);rw[d9]at p1;obtain⟨base,a8⟩:=Gz V0.heap.size;obtain⟨W0,c4⟩:=Gz (V0.alloc (.cells (Z5 (Qb m Za5)) 35));have I:Below base V0 W0:=by rw[<- c4,<- a8];exact(Qa _ _).alloc (Qh _) _
 have q0:Blk W0 base 35 (Z5 (Qb m Za5)):=by rw[<- c4,<- a8];exact QS _ _ _
 have e7:w.heap.size<=base:=by rw[<- a8];exact a7.size
 have c1:base<=W0.heap.size:=by rw[<- c4];simp[a8]
 have f8:Below V0.heap.size V0 W0:=by rw[a8];exact I
 have b5:∀ wx,Below base W0 wx->Below V0.heap.size V0 wx:=λwx hb=>by rw[a8];exact I.trans hb
 have e4:Hid (∀ wx,Below base W0 wx->MIL wx A n c rs):=Za (λwx hb=>(h.below a7).below (b5 wx hb));have e6:Hid (∀ wx,Below base W0 wx->LimI wx B n d rr):=Za (λwx hb=>(hr.below a7).below (b5 wx hb));have f0:Hid (∀ wx,Below base W0 wx->LimI wx C n e0 ws):=Za (λwx hb=>(hw.below a7).below (b5 wx hb));have cR:Hid (∀ wx,Below base W0 wx->wx.cell? ⟨gR,0,none⟩=some (.slice A n c)):=Za (λwx hb=>Zb (b5 wx hb) (p0.cell 0));have cT:Hid (∀ wx,Below base W0 wx->wx.cell? ⟨gT,0,none⟩=some (.slice B n d)):=Za (λwx hb=>Zb (b5 wx hb) (p1.cell 0))
 have e9:Hid (MatA 35 41 W0 base base (Qb m Za5) (Zdy (Zf6 rs rr ws n m) m 0 0)):=Za (by
  rw[Zwf];refine⟨⟨[],by rw[List.append_nil];exact q0⟩,Qh _,by simp,λi r hr=>?_,λi j r s k hr hs hij h1=>?_⟩
  ·rw[Qf]at hr
   split at hr
   ·rename_i hi
    cases hr;rw[Qf,Gx hi];exact OwnF.nil _ _ _
   cases hr
  rw[Qf]at hr
  split at hr
  cases hr;cases h1;cases hr)
 obtain⟨g0,o0,r0,e8,a0,f3,-⟩:=(h.below a7).at_ (i:=0) hn0;rw[e8]at p0;have e3:=a3 r0 (Qi a0);rw[QI,e3]at f3;have g9:V0.cell? ⟨gR,0,none⟩=some (.slice (some ⟨g0,o0,none⟩) n c):=p0.cell 0;have g7:=Zrc (P:=Tryz.prog) 25 35 Tryz.underlying25 ki h0 g5 h6 (m:Int) m rfl Gk V0;subst e8;replace a3:=Za a3;replace g1:=Za (Gs a7 f8);replace hr:=Za hr;clear p0 p1 q0 I h hw a0 f8 b5;have g2:gT+1=base:=Gk;subst g8;go_in;go_wp2_with fail;replace d4:=Za d4;replace d9:=Za d9;replace g2:=Za g2;clear g9 f3 g7 a8 c4 sV a7
 go_loopg [21] m (λk iv wr=>∃ (i:Nat) (c3:List RS),i+k=m/\iv=.int .i64 i/\Hid (c3.length=m)/\MatA 35 41 wr base base c3 (Zdy (Zf6 rs rr ws n m) m i 0)/\Below base W0 wr)
 case atStart=>exact⟨0,Qb m Za5,by omega,rfl,Za Gh,e9.out,Qa _ _⟩
 case round =>
  clear e9;obtain⟨i,c3,h8,rfl,b1,hM,T⟩:=hrel;cases gk with
  | zero =>
   obtain rfl:i=m:=Gk;have t2:decide ((i:Int)<(i:Int))=false:=Gh;have g6:=g1.out.trans (T.mono e7);rw[Zzl]at hM;replace hM:=Za hM;go_wp2_with fail;go_ret;exact⟨base,c3,rfl,g6,b1.out,base,e7,hM.out⟩
  | succ k' =>
   obtain rfl:k'=m-(i+1):=Gk;have b4:i<m:=Gk;have t2:decide ((i:Int)<(m:Int))=true:=Gv Gk;have bi:(i:Int)<(m:Int):=Gk;replace hM:=Za hM;replace T:=Za T;go_wp2_with fail
   go_loopg [26] m (λk kv wx=>∃ (t:Nat) (b6:List RS),t+k=m/\kv=.int .i64 t/\Hid (b6.length=m)/\MatA 35 41 wx base base b6 (Zdy (Zf6 rs rr ws n m) m i t)/\Below base W0 wx)
   case atStart=>exact⟨0,c3,by omega,rfl,b1,hM.out,T.out⟩
   case round =>
    clear hM T b1;obtain⟨t,b6,h7,rfl,b1,hM,T⟩:=hrel
    have c8:((Zdy (Zf6 rs rr ws n m) m i t)[i]?.getD []).length+1<=1000:=by
     rw[Zpr b4,Gw (QA _),Gx rfl,QC,Zk7];omega
    have f:base<=wr.heap.size:=Qe c1 T.size;obtain⟨r,dZ⟩:=Zb3 (L:=b6) (i:=i) (by rw[b1.out];exact b4);obtain⟨cr,zr⟩:=hM.cell dZ;replace hM:=Za hM;replace c8:=Za c8;cases gk with
    | zero =>
     obtain rfl:m=t:=Gk;have t3:decide ((m:Int)<(m:Int))=false:=Gh;go_wp2_with fail;obtain⟨X0,b2⟩:=Gz wr.drew;have y:Below wr.heap.size wr X0:=by rw[<- b2];exact Zf (Qa _ _) 1
     have u:Hid (∀ wx,Below wr.heap.size wr wx->wx.cell? ⟨base,i,none⟩=some (.slice r.A r.n r.c)):=Za (λwx O=>Zb O cr);refine wp_heldS [15] hmx u (by rw[b2];exact y) (λhxs=>?_);rw[b2];refine Zke 10 [0,1,2,3,4,5,6,7,8,10] rfl Gi (u.out _ y) ?_
     iterate 10 (refine tkA ?_;try simp only[Qd,Zhf,Zgs,Zg9,Gr,Gq,Gp])
     refine tk0 ?_;refine Za8 [(9,56),(11,58)] (λ_=>[]) [(9,56),(11,58)] (Zi7 9 99 11 gR i 0 ((Zc0 ws (Zcg rs i) (Zjy rr) n:Int):Rat)) 4 Gi (λ_ _ _ _ _ hb h=>Znr hb h) (λwx h=>u.out _ (Gs y h)) ?hop ?hfin
     case hop =>
      intro p hp;simp only[Qz,Qs,or_false]at hp;simp only[Qg,Qj,Zap,Qd,Zhf,Zgs,Zg9];rcases hp with rfl|rfl;exact CF;intro ν wx hb hP;have O:=T.trans ((Gs y hb).mono f);have V:=e4.out wx O;have d3:=f0.out wx O;have c7:=cR.out wx O;have f4:=cT.out wx O;have f6:=e6.out wx O;have h3:=hP (9,56) Gh Gi;simp only[Zi7]at h3;obtain⟨g3,hν3,c9⟩:=h3;rw[hν3];refine Zm (i:=11) rfl (λK hK=>?_);go_simp;refine(Zx0 92 93 #[.pointer (some ⟨gR,0,none⟩),.pointer (some ⟨g3,0,none⟩)] #[.pointer (some ⟨gT,0,none⟩)] C n e0 ws (Zcg rs i) (Zjy rr) wx d3 hn9 (λj _=>V.i64 _ _) (λj _=>Zks hr.out.2.2.2.1 j) (λx W=>Zln _ _ _ W) (λx W=>Zws _ _ W) (λW j I hj=>Zjx _ n c m rs gR g3 i j W (V.below I) (Zb I c7) (Zb I (c9.cell 0)) hj b4 a3.out hm9 hn9) (λW j I hj=>side_ok B n d rr gT j W (f6.below I) (Zb I f4) hj hn9)).mono ?_;exact Iz
     case hfin =>
      intro ν X00 hb00 hP;have h3:=hP (9,56) Gh;have h5:=hP (11,58) Gh;simp only[Zi7]at h3 h5;obtain⟨g3,h3,-⟩:=h3
      skip
      obtain⟨n6,A6,k6,c6,m6,B6,j6,d6,h5,c2⟩:=h5;simp only[Qg,Qj,Zap,Qd,Zhf,Zgs,Zg9];rw[h3,h5];clear h3 h5 hP ν;have a0:Below wr.heap.size wr X00:=Gs y hb00;obtain⟨Y1,a4⟩:=Gz (X00.alloc (.cells #[.bool n6,.slice A6 k6 c6,.bool m6,.slice B6 j6 d6] 41));obtain⟨ga,b0⟩:=Gz X00.heap.size;have b3:Below X00.heap.size X00 Y1:=by rw[<- a4];exact(Qa _ _).alloc (Qh _) _
      have c0:Blk Y1 ga 41 #[.bool n6,.slice A6 k6 c6,.bool m6,.slice B6 j6 d6]:=by rw[<- a4,<- b0];exact QS _ _ _
      have J:Below wr.heap.size wr Y1:=Gs a0 b3;refine wpAnyL_o 12 λK hK=>?_;go_simp;(try rw[a4]);(try rw[b0]);refine hK.out _ _ (λ_=>u.out _ J) ?_;clear hK K a4 b0
      try simp only[Qd,Zhf,Zgs,Zg9]
      have cO:=(hM.out).below J;have b7:=c2.below b3;have d8:base<=Y1.heap.size:=Qe f J.size;have a9:=cO.2.2.2.1 i r dZ;refine wpAnyL_o 13 λK hK=>?_;rw[Gx Gd];refine Zbe _ (.tmp 52) (.tmp 59) 35 rfl base 41 iF Tryz.underlying35 hi e5 f9 f5 (r).val _ rfl a9 _ (some ⟨ga,0,none⟩) 1 1 [⟨n6,A6,k6,c6,m6,B6,j6,d6,((Zc0 ws (Zcg rs i) (Zjy rr) n:Int):Rat)⟩] rfl (Zb9 _ c0) rfl (by intro e he;rw[QJ]at he;subst he;exact b7) c8.out d8 ?_;intro v2 Y2 bH bE b9 b8
      obtain⟨nA,nn,nc,rfl⟩:∃ A n c,v2=.slice A n c:=by
       exact Cp
      have ai:=a9.ownBlk
      have U:∀ (g o:Nat) (v:Value),(r).val.ownBlock≠some g->Y1.cell? ⟨g,o,none⟩=some v->Y2.cell? ⟨g,o,none⟩=some v:=λg o v hgg hv=>by
       rw[<- hv];exact Qw (bE.block g (Zo hv) (λe=>hgg e.symm))
      have a6:=Za (cO.app gE (i:=i) (r':=⟨nA,nn,nc⟩) dZ bE bH b9 b8);rw[Qg,Qj,show (FE.q ⟨n6,A6,k6,c6,m6,B6,j6,d6,((Zc0 ws (Zcg rs i) (Zjy rr) n:Int):Rat)⟩)=((Zc0 ws (Zcg rs i) (Zjy rr) n:Int):Rat) from rfl,Zpe b4 (Zzw)]at a6
      have cf:r.val.ownBlock≠some base:=λe=>by
       exact Cv
      have a5:Y2.cell? ⟨base,i,none⟩=some (.slice r.A r.n r.c):=U _ _ _ cf (u.out _ J);have e2:Hid (Below base W0 (Y2.setCell ⟨base,i,none⟩ (RS.val ⟨nA,nn,nc⟩))):=Za (((T.trans (J.mono f)).grown bE (Qe c1 (T.trans (J.mono f)).size) (λk hk=>(ai k hk).choose_spec.2.2)).setCell a6.out.2.1 _)
      have d7:Y2.frozen? ⟨base,i,none⟩=false:=by
       exact Im
      refine hK.out _ _ (λ_=>a5) ?_;clear hK K
      try simp only[Qd,Zhf,Zgs,Zg9]
      refine Zgt 1 [14] rfl Gi a5 ?_
      (refine tkA ?_;try simp only[Qd,Zhf,Zgs,Zg9,Gr,Gq,Gp])
      refine tk0 ?_;have d0:=a5;have e1:Hid ((b6.set i ⟨nA,nn,nc⟩).length=m):=Za (by rw[QQ];exact b1.out);clear a5 bH ai a9 cO b7 c0 b3 J U cf;refine Zu (i:=15) rfl Gi Gi (λK hK=>?_);go_simp;refine hK.out _ _ ?_;clear hK K
      try simp only[Qd,Zhf,Zgs,Zg9]
      refine wpAnyL_fin ?_;clear d0 d7 hxs u y a0 hb00 c2 cr zr bE b9 b8;go_wp2_with fail;rw[Zu1 (by rw[Zk7];exact Qh _)]at a6
      go_roundg (m-(i+1))
      case measure=>omega
      case rel=>exact⟨i+1,_,by omega,by go_num,e1,a6.out,e2.out⟩
    | succ k2 =>
     obtain rfl:k2=m-(t+1):=Gk;have f7:t<m:=Gk;have t3:decide ((t:Int)<(m:Int))=true:=Gv Gk;go_wp2_with fail;obtain⟨X0,b2⟩:=Gz wr.drew;have y:Below wr.heap.size wr X0:=by rw[<- b2];exact Zf (Qa _ _) 1
     have u:Hid (∀ wx,Below wr.heap.size wr wx->wx.cell? ⟨base,i,none⟩=some (.slice r.A r.n r.c)):=Za (λwx O=>Zb O cr);refine wp_heldS [17] hmx u (by rw[b2];exact y) (λhxs=>?_);rw[b2];refine Zke 11 [0,1,2,3,4,5,6,7,8,10,11] rfl Gi (u.out _ y) ?_
     iterate 11 (refine tkA ?_;try simp only[Qd,Zhf,Zgs,Zg9,Gr,Gq,Gp])
     refine tk0 ?_;refine Za8 [(9,38),(12,41),(13,42)] (λ_=>[]) [(9,38),(12,41),(13,42)] (Zi7 9 12 13 gR i t ((Zc0 ws (Zcg rs i) (Zcg rs t) n:Int):Rat)) 4 Gi (λ_ _ _ _ _ hb h=>Znr hb h) (λwx h=>u.out _ (Gs y h)) ?hop ?hfin
     case hop =>
      intro p hp;simp only[Qz,Qs,or_false]at hp;simp only[Qg,Qj,Zap,Qd,Zhf,Zgs,Zg9];rcases hp with rfl|rfl|rfl;exact CF
      ·intro ν wx hb hP
       refine Zm (i:=12) rfl (λK hK=>?_);go_simp;refine(Zlb gR t wx).mono ?_;exact FT
      intro ν wx hb hP;have O:=T.trans ((Gs y hb).mono f);have V:=e4.out wx O;have d3:=f0.out wx O;have c7:=cR.out wx O;have f4:=cT.out wx O;have f6:=e6.out wx O;have h3:=hP (9,38) Gh Gi;simp only[Zi7]at h3;obtain⟨g3,hν3,c9⟩:=h3;rw[hν3];have h4:=hP (12,41) Gh Gi;simp only[Zi7]at h4;obtain⟨g4,hν4,h2⟩:=h4;rw[hν4];refine Zm (i:=13) rfl (λK hK=>?_);go_simp;refine(Zx0 92 92 #[.pointer (some ⟨gR,0,none⟩),.pointer (some ⟨g3,0,none⟩)] #[.pointer (some ⟨gR,0,none⟩),.pointer (some ⟨g4,0,none⟩)] C n e0 ws (Zcg rs i) (Zcg rs t) wx d3 hn9 (λj _=>V.i64 _ _) (λj _=>V.i64 _ _) (λx W=>Zln _ _ _ W) (λx W=>Zln _ _ _ W) (λW j I hj=>Zjx _ n c m rs gR g3 i j W (V.below I) (Zb I c7) (Zb I (c9.cell 0)) hj b4 a3.out hm9 hn9) (λW j I hj=>Zjx _ n c m rs gR g4 t j W (V.below I) (Zb I c7) (Zb I (h2.cell 0)) hj f7 a3.out hm9 hn9)).mono ?_;exact Iz
     case hfin =>
      intro ν X00 hb00 hP;have h3:=hP (9,38) Gh;have h5:=hP (13,42) Gh;have h4:=hP (12,41) Gh;simp only[Zi7]at h3 h5 h4;obtain⟨g3,h3,-⟩:=h3;obtain⟨g4,h4,-⟩:=h4;obtain⟨n6,A6,k6,c6,m6,B6,j6,d6,h5,c2⟩:=h5;simp only[Qg,Qj,Zap,Qd,Zhf,Zgs,Zg9];rw[h3,h4,h5];clear h3 h4 h5 hP ν;have a0:Below wr.heap.size wr X00:=Gs y hb00;obtain⟨Y1,a4⟩:=Gz (X00.alloc (.cells #[.bool n6,.slice A6 k6 c6,.bool m6,.slice B6 j6 d6] 41));obtain⟨ga,b0⟩:=Gz X00.heap.size;have b3:Below X00.heap.size X00 Y1:=by rw[<- a4];exact(Qa _ _).alloc (Qh _) _
      have c0:Blk Y1 ga 41 #[.bool n6,.slice A6 k6 c6,.bool m6,.slice B6 j6 d6]:=by rw[<- a4,<- b0];exact QS _ _ _
      have J:Below wr.heap.size wr Y1:=Gs a0 b3;refine wpAnyL_o 14 λK hK=>?_;go_simp;(try rw[a4]);(try rw[b0]);refine hK.out _ _ (λ_=>u.out _ J) ?_;clear hK K a4 b0
      try simp only[Qd,Zhf,Zgs,Zg9]
      have cO:=(hM.out).below J;have b7:=c2.below b3;have d8:base<=Y1.heap.size:=Qe f J.size;have a9:=cO.2.2.2.1 i r dZ;refine wpAnyL_o 15 λK hK=>?_;rw[Gx Gd];refine Zbe _ (.tmp 34) (.tmp 43) 35 rfl base 41 iF Tryz.underlying35 hi e5 f9 f5 (r).val _ rfl a9 _ (some ⟨ga,0,none⟩) 1 1 [⟨n6,A6,k6,c6,m6,B6,j6,d6,((Zc0 ws (Zcg rs i) (Zcg rs t) n:Int):Rat)⟩] rfl (Zb9 _ c0) rfl (by intro e he;rw[QJ]at he;subst he;exact b7) c8.out d8 ?_;intro v2 Y2 bH bE b9 b8
      obtain⟨nA,nn,nc,rfl⟩:∃ A n c,v2=.slice A n c:=by
       exact Cp
      have ai:=a9.ownBlk
      have U:∀ (g o:Nat) (v:Value),(r).val.ownBlock≠some g->Y1.cell? ⟨g,o,none⟩=some v->Y2.cell? ⟨g,o,none⟩=some v:=λg o v hgg hv=>by
       rw[<- hv];exact Qw (bE.block g (Zo hv) (λe=>hgg e.symm))
      have a6:=Za (cO.app gE (i:=i) (r':=⟨nA,nn,nc⟩) dZ bE bH b9 b8);rw[Qg,Qj,show (FE.q ⟨n6,A6,k6,c6,m6,B6,j6,d6,((Zc0 ws (Zcg rs i) (Zcg rs t) n:Int):Rat)⟩)=((Zc0 ws (Zcg rs i) (Zcg rs t) n:Int):Rat) from rfl,Zpe b4 (Z3a f7)]at a6
      have cf:r.val.ownBlock≠some base:=λe=>by
       exact Cv
      have a5:Y2.cell? ⟨base,i,none⟩=some (.slice r.A r.n r.c):=U _ _ _ cf (u.out _ J);have e2:Hid (Below base W0 (Y2.setCell ⟨base,i,none⟩ (RS.val ⟨nA,nn,nc⟩))):=Za (((T.trans (J.mono f)).grown bE (Qe c1 (T.trans (J.mono f)).size) (λk hk=>(ai k hk).choose_spec.2.2)).setCell a6.out.2.1 _)
      have d7:Y2.frozen? ⟨base,i,none⟩=false:=by
       exact Im
      refine hK.out _ _ (λ_=>a5) ?_;clear hK K
      try simp only[Qd,Zhf,Zgs,Zg9]
      refine Zgt 1 [16] rfl Gi a5 ?_
      (refine tkA ?_;try simp only[Qd,Zhf,Zgs,Zg9,Gr,Gq,Gp])
      refine tk0 ?_;have d0:=a5;have e1:Hid ((b6.set i ⟨nA,nn,nc⟩).length=m):=Za (by rw[QQ];exact b1.out);clear a5 bH ai a9 cO b7 c0 b3 J U cf;refine Zu (i:=17) rfl Gi Gi (λK hK=>?_);go_simp;refine hK.out _ _ ?_;clear hK K
      try simp only[Qd,Zhf,Zgs,Zg9]
      refine wpAnyL_fin ?_;clear d0 d7 hxs u y a0 hb00 c2 cr zr bE b9 b8;go_wp2_with fail
      go_roundg (m-(t+1))
      case measure=>omega
      case rel=>exact⟨t+1,_,by omega,by go_num,e1,a6.out,e2.out⟩
theorem Zi6{rs:List RI}{rr ws:List Int}(h:Zd5 rs rr ws=0):rs.length<=200/\(∀ r ∈ rs,r.n<=12)/\n0I rs≠0/\ws.length=rs.length/\rr.length=rs.length/\Ziy 1 ws=false/\Ziy (-1099511627776) rr=false/\∀ r ∈ rs,r.n=n0I rs/\Ziy (-1099511627776) r.l=false:=by
 unfold Zd5 at h
 split at h
 cases h;rename_i h1
 split at h
 ·rename_i h2
  simp only[Zlz,Bool.or_eq_true,decide_eq_true_eq,not_or,List.any_eq_true,not_exists,RI.long,not_and]at h1;simp only[sysB,QO,Bool.not_eq_true',decide_eq_false_iff_not,decide_eq_true_eq,List.all_eq_true,Zrs]at h2;obtain⟨a1,a2,a3,a4,a5,a6⟩:=h2;exact⟨by omega,λr hr=>by have:=h1.2 r hr;omega,a1,a2,a3,a4,a5,a6⟩
 cases h
theorem Zik{P:Program}(t e:TypeId){i:TypeInfo}(ht:P.underlying t=some (.slice e))(hi:P.info? e=some i)(hz:i.zero=some (.int .i64 0))(hs:i.size=1)(hb:i.bytes=8)
    (x:Int) (n:Nat) (hx:x=n) (hn:n<=1000000000000) (W:World) :
    (Instr.makeSlice t (.int .i64 x) (.int .i64 x)).run P W=.ok (.slice (some ⟨W.heap.size,0,none⟩) n n) (W.alloc (.cells (madeCells #[.int .i64 0] n) e)):=by
 subst hx;have hr:=run_make (P:=P) W t e i _ ht hi hz .i64 .i64 n n Gk Gk (by rw[hb];omega) Gk;simp only[Int.toNat_natCast]at hr;rw[hr,hs,Nat.mul_one];rfl
theorem LimI.zeros{w:World}{g:Nat}{t:TypeId}{n:Nat}(h:Blk w g t (madeCells #[.int .i64 0] n))(hn:n<=maxLen):LimI w (some ⟨g,0,none⟩) n n (Qb n 0):=by
 refine⟨by simp,Qh _,hn,λx hx=>?_,λ_=>⟨g,0,rfl,λk hk=>?_⟩⟩;rw[List.eq_of_mem_replicate hx];unfold I64;decide;rw[Nat.zero_add,h.cell,Qf,Gx hk];unfold madeCells;simp[hk,Nat.mod_one]
theorem Zqt:(Tryz.prog.info? 2).map (λi=>(i.zero,i.size,i.bytes))=some (some (.int .i64 0),1,8):=by kernel_rfl
def RS.cut(r:RS):RS:=⟨r.A,r.n-1,r.c⟩
def Zix(rs:List RS)(i:Nat):List RS:=(rs.take i).map RS.cut++rs.drop i
theorem Zyn(rs:List RS):Zix rs 0=rs:=by simp[Zix]
theorem Z2y(rs:List RS):Zix rs rs.length=rs.map RS.cut:=by simp[Zix]
theorem Zsa(rs:List RS)(i:Nat):(Zix rs i).length=rs.length:=by simp[Zix];omega
theorem Z2p{rs:List RS}{i:Nat}{r:RS}(h:rs[i]?=some r)(zs:List RS):(Zix rs i++zs)[i]?=some r:=by
 have hi:=(List.getElem?_eq_some_iff.1 h).1;rw[Qo (by rw[Zsa];exact hi)];unfold Zix;rw[QB Gg];simp only[Qu,QC,QR (Nat.le_of_lt hi),Nat.sub_self,List.getElem?_drop,QI];exact h
theorem Z0r{rs:List RS}{i:Nat}{r:RS}(h:rs[i]?=some r)(zs:List RS):(Zix rs i++zs).set i r.cut=Zix rs (i+1)++zs:=by
 have hi:=(List.getElem?_eq_some_iff.1 h).1;have hr:rs[i]=r:=(List.getElem?_eq_some_iff.1 h).2;rw[List.set_append_left _ _ (by rw[Zsa];exact hi)];congr 1;unfold Zix;rw[List.set_append_right _ _ Gg];simp only[Qu,QC,QR (Nat.le_of_lt hi),Nat.sub_self];rw[List.drop_eq_getElem_cons hi,List.set_cons_zero,QL,Qm hi,hr];simp
theorem FL.keptS{w w':World}{A:Option Addr}{n c:Nat}{qs:List Rat}{go:Nat}{tS:TypeId}{rs:List RS}(h:FL w A n c qs)(hk:Kept (λg=>g=go) w w')(hb:Blk w go tS (Z5 rs)):FL w' A n c qs:=by
 have hG:∀ k,(λg=>g=go) k->∃ t cs,Blk w k t cs/\NoLimb cs:=λk e=>by
  cases e;exact⟨_,_,hb,Zba rs⟩
 obtain⟨es,h1,h2,h3,h4,h5,h6⟩:=h;refine⟨es,h1,h2,h3,λe he=>⟨hk.wd (h4 e he).1 hG,hk.wd (h4 e he).2 hG⟩,h5,λhn=>?_⟩;obtain⟨g,o,e1,hc⟩:=h6 hn;refine⟨g,o,e1,λk e he=>?_⟩;obtain⟨a,b,c',d⟩:=hc k e he
 have u:g≠go:=λe'=>by
  subst e';rw[hb.cell]at a;unfold Z5 at a;simp only[List.getElem?_toArray,Zcm,Qc,QF]at a;obtain⟨r,-,hr⟩:=a;cases hr
 have f:∀ (j:Nat) (v:Value),w.cell? ⟨g,j,none⟩=some v->w'.cell? ⟨g,j,none⟩=some v:=λj v hv=>by
  rw[<- hv];exact Qw (hk.block g (Zo hv) u)
 exact⟨f _ _ a,f _ _ b,f _ _ c',f _ _ d⟩
theorem Zsz(A C:Option Addr)(n c k e0:Nat)(rs:List RI)(ws:List Int)(w:World)(h:MIL w A n c rs)(hw:LimI w C k e0 ws)(E:Int)(hE:Zd5 rs (List.replicate (min n 200) 0) ws=E)(h0:E≠0) :
    Calls Tryz.prog 15 #[.slice A n c,.slice C k e0] w λe w'=>e=.returned (.tuple #[.slice none 0 0,.int .i64 E])/\Below w.heap.size w w':=by
 obtain⟨iI,ji,y,I,u⟩:=info_parts Zqt;have hn:=Qe h.2.1 h.2.2.1;unfold maxLen at hn;have o:min (n:Int) 200=((min n 200:Nat):Int):=Gk;have hk:min n 200<=200:=Gk;obtain⟨q,hq⟩:=Gz (min n 200);rw[hq]at o hk hE;have t1:decide (E≠0)=true:=Gv h0;have U:(E != 0)=true:=by simpa using h0
 have T:(E == 0)=false:=by simpa using h0
 have V:=Zik (P:=Tryz.prog) 23 2 Tryz.underlying23 ji y I u (q:Int) q rfl Gk w;obtain⟨W0,J,f,q0,s0⟩:=Zam w 2 (madeCells #[.int .i64 0] q);have hC:=Za (Zlw A (some ⟨w.heap.size,0,none⟩) C n c q q k e0 rs (Qb q 0) ws W0 (h.below f) (LimI.zeros q0 (by unfold maxLen;omega)) (hw.below f) E hE);clear q0 h hw hE hq;replace h0:=Za h0;go_in;go_wp2_with fail;(try rw[J]);refine hC.out.mono ?_;rintro e w1 ⟨rfl,O⟩;go_wp2_with fail;go_returns;exact⟨rfl,Gs f O⟩
def Zc7(rs:List RI)(ws:List Int)(n m:Nat):List (List Rat):=(Qp m).map λi=>(Qp m).map λk=>((Zc0 ws (Zcg rs i) (Zcg rs k) n:Int):Rat)
theorem Zzg(rs:List RI)(rr ws:List Int)(n m:Nat):(Zpl rs rr ws n m).map (λq=>q.take m)=Zc7 rs ws n m:=by
 unfold Zpl Zc7;rw[List.map_map];refine Qy λi _=>?_;show (Zf6 rs rr ws n m i).take m=_;unfold Zf6;rw[List.take_append_of_le_length Gh,QE Gh]
theorem Zwj(A C:Option Addr)(n c e0 m:Nat)(rs:List RI)(ws:List Int)(w:World)(h:MIL w A n c rs)(hw:LimI w C n e0 ws)(hE:Zd5 rs (List.replicate n 0) ws=0)(hm:n0I rs=m) :
    Calls Tryz.prog 15 #[.slice A n c,.slice C n e0] w λe w'=>∃ go,e=.returned (.tuple #[.slice (some ⟨go,0,none⟩) m m,.int .i64 0])/\Below w.heap.size w w'/\MFL w' (some ⟨go,0,none⟩) m m (Zc7 rs ws n m):=by
 obtain⟨iI,ji,c1,c3,b4⟩:=info_parts Zqt;obtain⟨f1,f2,f3,f4,f5,f6,f7,f8⟩:=Zi6 hE;have hl:=h.1;rw[hl]at f1;rw[hm]at f3
 have b3:0<n:=by
  rcases Nat.eq_zero_or_pos n with h0|h0
  ·exfalso
   have:rs=[]:=Qx Gk;subst this;exact f3 (by rw[<- hm];rfl)
  exact h0
 have y:∀ r ∈ rs,r.n=m:=λr hr=>by rw[(f8 r hr).1,hm]
 have c4:m<=12:=by
  obtain⟨_,_,r0,_,b7,_⟩:=h.at_ (i:=0) b3;have h1:=Qi b7;rw[<- y r0 h1];exact f2 r0 h1
 have b9:0<m:=Gk;have c5:min (n:Int) 200=(n:Int):=Gk;have c2:=Zik (P:=Tryz.prog) 23 2 Tryz.underlying23 ji c1 c3 b4 (n:Int) n rfl Gk w;obtain⟨W0,b5,o,q0,s0⟩:=Zam w 2 (madeCells #[.int .i64 0] n);have hZ:=Za (LimI.zeros q0 (by unfold maxLen;omega));have hM:=Za (h.below o);have a0:=Za (hw.below o);clear q0 h hw f2 f3 f4 f5 f6 f7 f8;replace hE:=Za hE;replace hm:=Za hm;replace hl:=Za hl;replace y:=Za y;go_in;go_wp2_with fail;(try rw[b5]);refine(Zlw A (some ⟨w.heap.size,0,none⟩) C n c n n n e0 rs (Qb n 0) ws W0 hM.out hZ.out a0.out 0 hE.out).mono ?_;rintro e w1 ⟨rfl,u⟩;go_wp2_with fail;refine(Zur A (some ⟨w.heap.size,0,none⟩) C n c n e0 m rs (Qb n 0) ws w1 (hM.out.below u) (hZ.out.below u) (a0.out.below u) b3 Gk b9 Gk y.out).mono ?_;rintro e w2 ⟨go,f,rfl,b2,b1,base,a8,b6⟩;have Y:=o.trans ((Gs u b2).mono o.size);obtain⟨⟨zs,U⟩,a9,a7,O,-⟩:=b6
 have V:∀ (i:Nat) (r:RS),f[i]?=some r->r.n=m+1/\m+1<=r.c/\r.c<=maxLen/\FL w2 r.A r.n r.c ((Zpl rs (Qb n 0) ws n m)[i]?.getD []):=λi r hr=>by
  have hi:i<m:=by rw[<- b1];exact(List.getElem?_eq_some_iff.1 hr).1
  obtain⟨a1,a2⟩:=(O i r hr).rsn
  have a3:((Zpl rs (Qb n 0) ws n m)[i]?.getD []).length=m+1:=by
   unfold Zpl;rw[Qc,Qk hi,Qv,QP,Zk7]
  rw[a3]at a1;have a4:=a2.cap;rw[a1]at a4;exact⟨a1,a4.1,a4.2,a2⟩
 have a6:w.heap.size<=go:=Qe (Qe (Gs o u).size a8) a9;replace V:=Za V;replace O:=Za O;replace U:=Za U;replace Y:=Za Y;clear u b2 o hM a0 hZ c2 a8 a9;go_wp2_with fail
 go_loopg [28] m (λk iv wr=>∃ i:Nat,i+k=m/\iv=.int .i64 i/\Blk wr go 35 (Z5 (Zix f i++zs))/\Kept (λg=>g=go) w2 wr)
 case atStart=>exact⟨0,by omega,rfl,by rw[Zyn];exact U.out,Kept.refl _ _⟩
 case round =>
  obtain⟨i,c7,rfl,I,hK⟩:=hrel;cases gk with
  | zero =>
   obtain rfl:m=i:=Gk;have t2:decide ((m:Int)<(m:Int))=false:=Gh;have b8:=Y.out.trans (hK.to_below (λk hk=>by rw[hk];exact a6) Y.out.size)
   have hfin:MFL wr (some ⟨go,0,none⟩) m m (Zc7 rs ws n m):=by
    refine⟨by unfold Zc7;simp,Qh _,by unfold maxLen;omega,λ_=>⟨go,0,rfl,λj q hq=>?_⟩⟩;rw[<- Zzg rs (Qb n 0) ws n m,Qc,QF]at hq;obtain⟨q0,b0,rfl⟩:=hq;have hj:j<f.length:=by rw[a7];exact(List.getElem?_eq_some_iff.1 b0).1
    have hr:=Qm hj;obtain⟨a1,a2,a3,a4⟩:=V.out j _ hr;rw[b0,QP]at a4;have a5:=(a4.keptS hK U.out).take (k:=m) Gk
    have J:(Zix f m++zs)[j]?=some (f[j]).cut:=by
     rw[<- b1,Z2y,Qo (by simpa using hj),Qc,hr];rfl
    refine⟨_,_,_,by rw[Nat.zero_add,I.cell];exact Zb6 J,?_⟩;simp only[RS.cut,a1];exact a5
   replace hfin:=Za hfin;clear I hK;go_wp2_with fail;go_returns;exact⟨go,rfl,b8,hfin.out⟩
  | succ k' =>
   obtain rfl:k'=m-(i+1):=Gk;have c6:i<m:=Gk;have t2:decide ((i:Int)<(m:Int))=true:=Gv Gk;have bi:(i:Int)<(m:Int):=Gk;obtain⟨r,hr⟩:=Zb3 (L:=f) (i:=i) Gk;obtain⟨a1,a2,a3,-⟩:=V.out i r hr;have cr:=I.cell i;rw[Zb6 (Z2p hr zs),a1]at cr;have zr:=I.frozen i;unfold maxLen at a3
   have T:Blk (wr.setCell ⟨go,i,none⟩ (.slice r.A m r.c)) go 35 (Z5 (Zix f (i+1)++zs)):=by
    have:=I.set_ i (.slice r.A m r.c);have J:r.cut=⟨r.A,m,r.c⟩:=by simp only[RS.cut,a1];rfl
    have e2:(Zix f i++zs).set i ⟨r.A,m,r.c⟩=Zix f (i+1)++zs:=by rw[<- J,Z0r hr zs]
    rw[show Value.slice r.A m r.c=Value.slice (RS.mk r.A m r.c).A (RS.mk r.A m r.c).n (RS.mk r.A m r.c).c from rfl,Zdr ⟨r.A,m,r.c⟩,e2]at this;exact this
   have c0:Hid (Kept (λg=>g=go) w2 (wr.setCell ⟨go,i,none⟩ (.slice r.A m r.c))):=Za (hK.set_ (p:=⟨go,i,none⟩) (.inl rfl) _);replace T:=Za T;have s1:((m+1:Nat):Int)-1=(m:Int):=Gk;have s2:(m:Int)<=(r.c:Int):=Gk;have s3:m<=r.c:=Gk;clear I hK a1;replace hr:=Za hr;go_wp2_with fail
   go_roundg (m-(i+1))
   case measure=>omega
   case rel=>exact⟨i+1,by omega,by go_num,T.out,c0.out⟩
def Zry(rs:List RI)(ws:List Int)(n m i:Nat):List Rat:=(Qp m).map λk=>((Zc0 ws (Zcg rs i) (Zcg rs k) n:Int):Rat)
theorem Zu2(rs:List RI)(ws:List Int)(n m i:Nat):(Zry rs ws n m i).length=m:=by unfold Zry;simp
theorem Zj8(rs:List RI)(ws:List Int)(n m:Nat):(Zc7 rs ws n m).length=m:=by unfold Zc7;simp
