/- The reference's GreatSystem. Numbers with a common -/
import Derived.Deep.LoopGhost
import Derived.ProofKit
import Derived.Deep.Slices
import Derived.Deep.Fields
import Derived.ChangeSame
import Derived.Test.YthappeninglakaaGreatProg
import Derived.Test.YthappeninglakaaGreatZe21
set_option maxRecDepth 100000
set_option maxHeartbeats 8000000
set_option linter.unusedSimpArgs false
set_option linter.unusedVariables false
namespace Go.Proofs.YthappeninglakaaGreat
open Go.RowKit
open List renaming getElem?_eq_getElem→Qa,getElem?_map→Qd,getElem?_eq_none→Qe,replicate→Qg,map_congr_left→Qh,length_map→Qi,mem_of_getElem?→Qk,eq_nil_of_length_eq_zero→Ql,getElem_mem→Qr,map_map→Qs,getElem?_range→Qu,getElem_of_mem→Qv,getElem_cons_zero→QC,getElem_cons_succ→QD,range→QH,getElem_toArray→QI,length_append→QL,ext_getElem?→QM,getElem?_set→QN,ext_getElem→QP,all_eq_true→QR,length_set→QT
open Nat renaming le_refl→Qb,le_trans→Qc,lt_of_le_of_lt→Qf,mul_le_mul→Qm,lt_of_lt_of_le→Qp,zero_le→Qx,eq_zero_or_pos→Qy,le_of_lt→QB,add_assoc→QJ,lt_or_ge→QK,mul_one→QO
open Option renaming getD_some→Qj,map_some→Qo
open Rat renaming le_of_mul_le_mul_left→Qn,intCast_natCast→Qt,mul_comm→QA,mul_nonneg→QE,intCast_neg→QS
open Int renaming natAbs_natCast→Qq,natAbs_mul→Qw
open Below renaming refl→Qz
open Act renaming put→QF
open Bool renaming or_eq_false_iff→QG,and_eq_true→QQ
attribute [local go_sem] Zg
def ModI(rs:List RI)(n m k:Nat):Prop:=(∀ (j:Nat) (r:RI),j<n->j<210->rs[j]?=some r->(r.n<=4 \/ 12<r.n)/\r.n<=15)/\(n<=12 \/ 200<n)/\n<=210/\m<=300/\k<=300
def CD(D M:Nat)(q:Rat):Prop:=∃ z:Int,q=(z:Rat)/(D:Rat)/\z.natAbs<=M
section
variable{D M N:Nat}{p q:Rat}
theorem CD.mono(h:CD D M q)(hM:M<=N):CD D N q:=by
 obtain⟨z,e,hz⟩:=h;exact⟨z,e,Qc hz hM⟩
end
theorem Zkg{n:Nat}(f g:Nat->Rat):Zw n (λi=>f i-g i)=Zw n f-Zw n g:=by
 exact Fe
section
variable(rs:List RI)(rr ws:List Int)(x:Nat->Rat)
end
section
variable{rs:List RI}{rr ws:List Int}{x:Nat->Rat}{n m:Nat}
end
def B40(z:Int):Prop:=z.natAbs<=1099511627776
section
variable{D M N:Nat}{q:Rat}
theorem CD.small(h:CD D M q)(hD:0<D):q.num.natAbs<=M/\q.den<=D:=by
 obtain⟨z,e,hz⟩:=h
 have f:((D:Int):Rat)≠0:=by
  intro h0;have:=Rat.intCast_inj.1 (show ((D:Int):Rat)=((0:Int):Rat) by simpa using h0);omega
 have e2:((D:Int):Rat)*q=(z:Rat):=by
  have h2:((D:Int):Rat)=(D:Rat):=Qt D;rw[h2]at f ⊢;rw[e]
  grind
 exact Zfn ⟨z,e2,hz⟩ ⟨(D:Int),rfl,by simp⟩ f
end
theorem Zwq{ws:List Int}{a b:Nat->Int}:∀ (n:Nat),(∀ r,r<n->B40 (Zjt ws r)/\B40 (a r)/\B40 (b r))->(Zc1 ws a b n).natAbs<=n*(1099511627776*(1099511627776*1099511627776))
 | 0,_=>by simp[Zc1]
 | n+1,h=>by
  have ih:=Zwq n (λr hr=>h r Gk);obtain⟨h1,h2,h3⟩:=h n Gk
  have h4:((Zjt ws n)*(a n*b n)).natAbs<=1099511627776*(1099511627776*1099511627776):=by
   rw[Qw,Qw];exact Qm h1 (Qm h2 h3)
  have h5:Zc1 ws a b (n+1)=Zc1 ws a b n+Zjt ws n*(a n*b n):=rfl;rw[h5,Nat.succ_mul];exact Qc (Int.natAbs_add_le _ _) (Nat.add_le_add ih h4)
theorem Zyw:200*(1099511627776*(1099511627776*1099511627776))<=pw 4:=by decide +kernel
theorem Z0t{ws:List Int}{a b:Nat->Int}{n:Nat}(hn:n<=200)(h:∀ r,r<n->B40 (Zjt ws r)/\B40 (a r)/\B40 (b r)):(Zc1 ws a b n).natAbs<=pw 4:=
 Qc (Zwq n h) (Qc (Qm hn (Qb _)) Zyw)
theorem Zzv{a b i j:Nat}(ha:a<=pw i)(hb:b<=pw j):a*b<=pw (i+j):=by rw[Zcx];exact Qm ha hb
theorem k_pw{n:Nat}(h:n<=4294967296):n<=pw 1:=by
 have:pw 1=4294967296:=GY;rw[this];exact h
theorem Zr2{t:TypeId}{w:World}{g:Nat}{a0:Bool}{A0:Option Addr}{n0 c0:Nat}{b0:Bool}{B0:Option Addr}{m0 d0:Nat}(na:Bool)(A:Option Addr)(n c:Nat)(nb:Bool)(B:Option Addr)(m d:Nat)(hb:Blk w g t #[.bool a0,.slice A0 n0 c0,.bool b0,.slice B0 m0 d0]) :
    ∃ W,(((w.setCell ⟨g,0,none⟩ (.bool na)).setCell ⟨g,1,none⟩ (.slice A n c)).setCell ⟨g,2,none⟩ (.bool nb)).setCell ⟨g,3,none⟩ (.slice B m d)=W/\Blk W g t #[.bool na,.slice A n c,.bool nb,.slice B m d]/\Kept (λk=>k=g) w W/\W.heap.size=w.heap.size:=by
 exact El
theorem Fr.keptV{w w':World}{na:Bool}{A:Option Addr}{n c:Nat}{nb:Bool}{B:Option Addr}{m d:Nat}{r:Rat}{g:Nat}{t:TypeId}{cs:Array Value}(h:Fr w na A n c nb B m d r)(hk:Kept (λk=>k=g) w w')(hb:Blk w g t cs)(hn:NoLimb cs):Fr w' na A n c nb B m d r:=
 ⟨hk.wd h.1 (λk e=>by cases e;exact⟨_,_,hb,hn⟩),hk.wd h.2 (λk e=>by cases e;exact⟨_,_,hb,hn⟩)⟩
theorem Zx9(z:Int):Rat.divInt z 1=(z:Rat):=Zks z
theorem Z1p{rs:List RI}{ws:List Int}{n m i:Nat}(h:i<m):(Zc7 rs ws n m)[i]?.getD []=Zrb rs ws n m i:=by
 unfold Zc7 Zrb;rw[Qd,Qu h];rfl
theorem b40_out{least x:Int}(h:Zqd least x=false)(h0:-1099511627776<=least):B40 x:=by
 unfold Zqd at h;simp only[QG,decide_eq_false_iff_not]at h;unfold B40;omega
theorem Zmr{least:Int}{l:List Int}(h:Zis least l=false)(h0:-1099511627776<=least)(i:Nat):B40 (l[i]?.getD 0):=by
 unfold Zis at h;rw[List.any_eq_false]at h;by_cases hi:i<l.length
 ·rw[Qa hi]
  exact b40_out (by simpa using h _ (Qr hi)) h0
 rw[Qe Gk];show (0:Int).natAbs<=_;decide
theorem sys_b40{rs:List RI}{rr ws:List Int}(h:Zd4 rs rr ws=0):(∀ r k,B40 (Zcg rs k r))/\(∀ r,B40 (Zjt rr r))/\∀ r,B40 (Zjt ws r):=by
 obtain⟨f1,f2,f3,f4,f5,f6,f7,f8⟩:=Zi2 h;refine⟨λr k=>?_,λr=>Zmr f7 Gj r,λr=>Zmr f6 Gj r⟩;unfold Zcg;by_cases hr:r<rs.length
 ·rw[Qa hr]
  exact Zmr (f8 _ (Qr hr)).2 Gj k
 rw[Qe (l:=rs) (i:=r) Gk];show (0:Int).natAbs<=_;decide
def Zew(rs:List RI)(ws:List Int)(n:Nat):Nat->Nat->Rat:=λi j=>((Zc1 ws (Zcg rs i) (Zcg rs j) n:Int):Rat)
section
variable{rs:List RI}{rr ws:List Int}{n m:Nat}
theorem BndQ.den{B:Nat}{q:Rat}(h:BndQ B q):q.den=1:=by
 obtain⟨z,rfl,-⟩:=h;exact Rat.den_intCast z
theorem BndQ.num{B:Nat}{q:Rat}(h:BndQ B q):q.num.natAbs<=B:=by
 obtain⟨z,rfl,hz⟩:=h;rw[Rat.num_intCast];exact hz
end
theorem Zqn{B:Nat}{R:List (List Rat)}(h:∀ i j,BndQ B (Zh R i j))(i k:Nat):denTo (R[i]?.getD []) k=1:=by
 have h1:=Zrr (R[i]?.getD []) (D:=1) (λj=>by
  have:=(h i j).den;unfold Zh at this;rw[this];exact Qb _) k
 have h2:=Zec (R[i]?.getD []) k;rw[Nat.one_pow]at h1;omega
theorem Zy2{B:Nat}{R:List (List Rat)}(h:∀ i j,BndQ B (Zh R i j))(i j:Nat):(Zaf (Z7 R) i j).natAbs<=B:=by
 have h1:=Zgv R i j;obtain⟨z,hz,hb⟩:=h i j;have hd:denAt R i=1:=Zqn h i _;rw[hd,hz]at h1
 have h2:((Zaf (Z7 R) i j:Int):Rat)=(z:Rat):=by
  rw[h1];have:((1:Nat):Rat)=1:=rfl;rw[this];grind
 rw[Rat.intCast_inj.1 h2];exact hb
theorem Zqy{b n m:Nat}{R:List (List Rat)}(h:∀ i j,BndQ (pw b) (Zh R i j))(hl:R.length=n)(hn:n<=900)(hrow:∀ i,i<n->(R[i]?.getD []).length=m)(hnm:n<=m)(h1:(b+1)*n<189)(hb:b<900) :
    okZ (pw 200) m n 0 0 (Z7 R) 1/\okR (pw 200) (pw 200) m n 0 0 R/\Zr9 R n m/\(Zap n 0 0 (Z7 R) false 1).2.1=(Zbf n 0 0 R false).2.1/\(Zbf n 0 0 R false).2.1<=n /\
    ((Zbf n 0 0 R false).2.1<n->Zat n (Zh R)=0) /\
    ((Zbf n 0 0 R false).2.1=n->Zat n (Zh R)≠0/\∃ X:Nat->Nat->Rat,Zhc (Zh (Zbf n 0 0 R false).1) X n m/\Zhc (λi j=>(Zaf (Zap n 0 0 (Z7 R) false 1).1 i j:Rat)) X n m/\SolQ (Zh R) X n m):=by
 have e:=Zkh (b:=b) n hn;obtain⟨B,hB⟩:=Gz (Zbn (pw b) n);rw[hB]at e;obtain⟨d,hd⟩:=Gz ((b+1)*n);rw[hd]at e h1;have bb:B*B<=pw (d+d):=Zzv e e
 have g1:(n+1)*(B*B)<pw 400:=by
  have h6:(n+1)*(B*B)<=pw (1+(d+d)):=Zzv (k_pw Gk) bb;exact Qf h6 (Zct Gk)
 have g2:B*B*1<pw 400:=by rw[QO];exact Qf bb (Zct Gk)
 have g3:B*1<pw 300:=by rw[QO];exact Qf e (Zct Gk)
 have hs:=Zvu (B:=pw b) (S:=1) (Zb1 _) (Qb _) R hl hrow (λi hi=>Nat.le_of_eq (Zqn h i _)) (λi j _=>Zy2 h i j) hnm (by rw[hB];exact g1) (by rw[hB];exact g2) (by rw[hB];exact g3);rw[hB,QO]at hs;obtain⟨o1,o2,o3,o4,o5,o6⟩:=hs;have p1:B+1<=pw 200:=Qc (Nat.add_le_add e (Zb1 d)) (Qc (Zqh d) (Zb6 Gk));have p2:B<pw 200:=p1;refine⟨Zob p2 _ _ _ _ _ o1,Zm6 p2 p2 _ _ _ _ o2,⟨λi t hi ht=>?_,λi j=>?_⟩,o3,o4,o5,λhr=>?_⟩;rw[Zqn h];exact Qp Zed (Zb6 Gj);exact Qf (h i j).num (Zct Gk);obtain⟨q1,X,q2,q3,q4,-⟩:=o6 hr;exact⟨q1,X,q2,q3,q4⟩
section
variable{rs:List RI}{rr ws:List Int}{n m:Nat}
end
theorem Zwl{w:World}{A:Option Addr}{n c:Nat}{rs:List RI}{rr ws:List Int}(h:MIL w A n c rs)(hE:Zd4 rs rr ws=0):0<n/\n<=200/\0<n0I rs/\n0I rs<=12/\rr.length=n/\ws.length=n/\∀ r ∈ rs,r.n=n0I rs:=by
 obtain⟨f1,f2,f3,f4,f5,f6,f7,f8⟩:=Zi2 hE;have hl:=h.1
 have f:0<n:=by
  rcases Qy n with h0|h0
  ·exfalso
   have:rs=[]:=Ql Gk;subst this;exact f3 rfl
  exact h0
 have e:n0I rs<=12:=by
  obtain⟨_,_,r0,_,o,_⟩:=h.at_ (i:=0) f;have h1:=Qk o;rw[<- (f8 r0 h1).1];exact f2 r0 h1
 exact⟨f,by omega,by omega,e,by omega,by omega,λr hr=>(f8 r hr).1⟩
section
variable{rs:List RI}{ws:List Int}{n:Nat}
end
section
variable{rs:List RI}{rr ws:List Int}{n m:Nat}
end
def bf(N:Nat->Nat->Rat)(m:Nat)(y z:Nat->Rat):Rat:=Zw m (λi=>y i*Zw m (λj=>N i j*z j))
section
variable{N:Nat->Nat->Rat}{m:Nat}
theorem bf_comm(hN:∀ i j,i<m->j<m->N i j=N j i)(y z:Nat->Rat):bf N m y z=bf N m z y:=by
 unfold bf
 rw[Zq (g:=λi=>Zw m (λj=>y i*N i j*z j)) (λi _=>by
  rw[QA,<- Zip];exact Zq λj _=>by grind),Zk0]
 refine Zq λj hj=>?_;rw[QA,<- Zip];exact Zq λi hi=>by rw[hN i j hi hj];grind
theorem bf_sub(hN:∀ i j,i<m->j<m->N i j=N j i)(y z:Nat->Rat):bf N m (λi=>y i-z i) (λi=>y i-z i)=bf N m y y-2*bf N m y z+bf N m z z:=by
 have h1:bf N m (λi=>y i-z i) (λi=>y i-z i)=Zw m (λi=>y i*Zw m (λj=>N i j*y j))-Zw m (λi=>y i*Zw m (λj=>N i j*z j))-(Zw m (λi=>z i*Zw m (λj=>N i j*y j))-Zw m (λi=>z i*Zw m (λj=>N i j*z j))):=by
  rw[<- Zkg,<- Zkg,<- Zkg];unfold bf;refine Zq λi _=>?_;rw[Zq (g:=λj=>N i j*y j-N i j*z j) (λj _=>by grind),Zkg]
  grind
 rw[h1];have h2:=bf_comm hN z y;unfold bf at *;rw[h2]
 grind
end
section
variable{rs:List RI}{ws:List Int}{n m:Nat}
end
section
variable{m q p s:Rat}
end
section
variable{A:Nat->Nat->Rat}{n:Nat}
theorem Z0m(hA:∀ i k,i<n->k<n->A i k=A k i)(hp:posP A n)(hU:∀ i j,i<n->j<i->Zn A i i j=0)(x:Nat->Rat) :
    Zw n (λi=>Zw n (λk=>A i k*(x i*x k)))=Zw n (λs=>dQ A s*(Zw n (λi=>tL A i s*x i)*Zw n (λi=>tL A i s*x i))):=by
 have h1:∀ i k,i<n->k<n->A i k=Zw n (λs=>tL A i s*dQ A s*tL A k s):=λi k hi hk=>by
  rw[Zz3 (A:=A) (c:=k) hi];exact Zq λs hs=>by rw[Z0u hA hp hU hs hk];grind
 rw[Zq (g:=λi=>Zw n (λs=>tL A i s*x i*(dQ A s*Zw n (λk=>tL A k s*x k)))) (λi hi=>by
  rw[Zq (g:=λk=>Zw n (λs=>tL A i s*x i*dQ A s*(tL A k s*x k))) (λk hk=>by
   rw[h1 i k hi hk,<- Zip];exact Zq λs _=>by grind),Zk0]
  refine Zq λs _=>?_;rw[Zq (g:=λk=>tL A k s*x k*(tL A i s*x i*dQ A s)) (λk _=>by grind),Zip]
  grind),Zk0]
 refine Zq λs _=>?_;rw[Zip]
 grind
theorem Zs5(hA:∀ i k,i<n->k<n->A i k=A k i)(hp:posP A n)(hU:∀ i j,i<n->j<i->Zn A i i j=0)(x:Nat->Rat):0<=Zw n (λi=>Zw n (λk=>A i k*(x i*x k))):=by
 rw[Z0m hA hp hU];refine Zhr λs hs=>QE (Rat.le_of_lt (hp s hs)) ?_;rcases Rat.le_total (a:=0) (b:=Zw n (λi=>tL A i s*x i))with h|h;exact QE h h;have h3:0 <= - Zw n (λi=>tL A i s*x i):=by grind
 have:=QE h3 h3
 grind
theorem bf_quad(x:Nat->Rat):bf A n x x=Zw n (λi=>Zw n (λk=>A i k*(x i*x k))):=by
 unfold bf;refine Zq λi _=>?_;rw[QA,<- Zip];exact Zq λk _=>by grind
theorem Zq8{i k:Nat}(hi:i<n)(hk:k<n)(a b:Rat):bf A n (λj=>if j=i then a else 0) (λj=>if j=k then b else 0)=a*(A i k*b):=by
 have h1:∀ j,Zw n (λl=>A j l*(if l=k then b else 0))=A j k*b:=λj=>by
  rw[Zfj k hk (λl _ hne=>by rw[Gw hne];grind),Gx rfl]
 show Zw n (λj=>(if j=i then a else 0)*Zw n (λl=>A j l*(if l=k then b else 0)))=_;rw[Zfj i hi (λj _ hne=>by rw[Gw hne];grind),Gx rfl,h1]
theorem corr_le(hA:∀ i k,i<n->k<n->A i k=A k i)(hp:posP A n)(hU:∀ i j,i<n->j<i->Zn A i i j=0){i k:Nat}(hi:i<n)(hk:k<n)(h0:0<A k k):A i k*A i k<=A i i*A k k:=by
 have h1:=Zs5 hA hp hU (λj=>(if j=i then A k k else 0)-(if j=k then A i k else 0));rw[<- bf_quad,bf_sub hA,Zq8 hi hi,Zq8 hi hk,Zq8 hk hk]at h1;have h2:0<=A k k*(A i i*A k k-A i k*A i k):=by grind
 have h3:A k k*0<=A k k*(A i i*A k k-A i k*A i k):=by grind
 have h4:=Qn h3 h0
 grind
end
theorem Zqr{w:World}{na:Bool}{A:Option Addr}{n c:Nat}{nb:Bool}{B:Option Addr}{m d:Nat}{q:Rat}(h:Fr w na A n c nb B m d q):n=0 ↔ q=0:=by
 have h1:=h.1.lim.len;have h2:=length_digits_pos (v:=q.num.natAbs);constructor
 ·intro e
  have h3:q.num=0:=Gk;exact Rat.num_eq_zero.1 h3
 intro e;have h3:q.num=0:=Rat.num_eq_zero.2 e;omega
section
variable{w:World}{A:Option Addr}{n c:Nat}{rs:List RX}
theorem cov_tri(h:MXL w A n c rs)(hf:Zjr 4 rs)(h0:Za2 rs=0):(∀ i k,i<n->k<n->Zh (qM rs) i k=Zh (qM rs) k i)/\posP (Zh (qM rs)) n/\(∀ i j,i<n->j<i->Zn (Zh (qM rs)) i i j=0):=by
 obtain⟨f,u,e⟩:=Zev h0;have o:rs.length=n:=h.1;have hl:(qM rs).length=n:=Zvt h;rw[o]at e;exact⟨λi k hi hk=>symB_iff.1 u i k Gk Gk,e,λi j hi hj=>red_low (f.small h hf) hl (λi hi=>f.row h i hi) (Qb _) e hi hj⟩
theorem Zuv{x y:Rat}(h:y≠0):y*(x/y)=x:=by
 rw[Rat.div_def,QA,Rat.mul_assoc,Rat.inv_mul_cancel _ h,Rat.mul_one]
theorem Zvc{x m:Rat}(hm:0<m)(hx:0<=x)(hxm:x<=m):0<=x/m/\x/m<=1/\(x=m->x/m=1):=by
 have f:m≠0:=λe=>by rw[e]at hm;exact absurd hm Gj
 have e:=Zuv (x:=x) f;refine⟨?_,?_,λh=>?_⟩
 ·refine Qn (c:=m) ?_ hm
  rw[e,Rat.mul_zero];exact hx
 ·refine Qn (c:=m) ?_ hm
  rw[e,Rat.mul_one];exact hxm
 rw[h,Rat.div_def,Rat.mul_inv_cancel _ f]
theorem Zvq(h:MXL w A n c rs)(hf:Zjr 4 rs)(h0:Za2 rs=0){i k:Int}(hb:0<=i/\i<(rs.length:Int)/\0<=k/\k<(rs.length:Int)):0<=Zsf rs i k/\Zsf rs i k<=1/\(i=k->Zsf rs i k=1):=by
 obtain⟨hA,hp,hU⟩:=cov_tri h hf h0;have o:rs.length=n:=h.1;have di:=Zer h0 (k:=i.toNat) Gk;have dk:=Zer h0 (k:=k.toNat) Gk;have f:=corr_le hA hp hU (i:=i.toNat) (k:=k.toNat) Gk Gk dk;have hm:=Rat.mul_pos di dk;obtain⟨h1,h2,h3⟩:=Zvc hm (Zng (Zh (qM rs) i.toNat k.toNat)) f;exact⟨h1,h2,λe=>h3 (by rw[e])⟩
theorem corV_sm(h:MXL w A n c rs)(hf:Zjr 4 rs)(h0:Za2 rs=0){i k:Int}(hb:0<=i/\i<(rs.length:Int)/\0<=k/\k<(rs.length:Int)):Sm (Zsf rs i k):=by
 have hS:=Zvz h hf h0;have di:=Zer h0 (k:=i.toNat) Gk;have dk:=Zer h0 (k:=k.toNat) Gk;have hm:=Rat.mul_pos di dk;have f:Zh (qM rs) i.toNat i.toNat*Zh (qM rs) k.toNat k.toNat≠0:=λe=>by rw[e]at hm;exact absurd hm Gj
 have h1:=(hS i.toNat k.toNat).mulN (hS i.toNat k.toNat);have h2:=(hS i.toNat i.toNat).mulN (hS k.toNat k.toNat);have l1:LeN 10 (Zh (qM rs) i.toNat k.toNat*Zh (qM rs) i.toNat k.toNat):=⟨QB h1.1,QB h1.2⟩;have l2:LeN 10 (Zh (qM rs) i.toNat i.toNat*Zh (qM rs) k.toNat k.toNat):=⟨QB h2.1,QB h2.2⟩;have h3:=l1.div l2 f;exact⟨Qf h3.1 (Zct Gj),Qf h3.2 (Zct Gj)⟩
theorem Zq3{es:List FX}(h0:Za2 rs=0):0<=Zfb rs es:=Zuw (Zev h0).2.2 _
theorem Zr1{es:List FX}{i:Nat}(h:es.length<=i):Zeu es i=0:=by
 unfold Zeu;rw[Qe (by rw[Qi];exact h)];rfl
theorem Zvh{es:List FX}(h0:Za2 rs=0)(hl:es.length=rs.length):Zfb rs es=0 ↔ ∀ i,Zeu es i=0:=by
 constructor
 ·intro h i
  rcases QK i rs.length with h1|h1;exact Z0h (Zev h0).2.2 h h1;exact Zr1 Gk
 intro h;unfold Zfb;rw[Zf8 (y:=λi=>0*Zeu es i+0*Zeu es i) (λi _=>by rw[h i];grind),Zre]
 grind
theorem Zri{es et:List FX}(ht:et.map FX.q=es.map λe=>e.q*2):Zfb rs et=Zfb rs es*4:=by
 have e:∀ i,Zeu et i=2*Zeu es i+0*Zeu es i:=λi=>by
  unfold Zeu;rw[ht,Qd,Qd];cases es[i]? with
  | none=>simp only[Option.map_none,Option.getD_none];grind
  | some x=>simp;grind
 unfold Zfb;rw[Zf8 (λi _=>e i),Zre,Zrx,Zf8 (λi _=>e i),Zre]
 grind
theorem Z0f{es:List FX}(h:MXL w A n c rs)(hf:Zjr 4 rs)(hn4:n<=4)(h0:Za2 rs=0)(hx:∀ i,LeN 7 (Zeu es i)):Znj (Zh (qM rs)) rs.length (Zeu es):=by
 obtain⟨e,y,o⟩:=Zev h0;have f:rs.length=n:=h.1;have C:0<n:=by rw[<- f];exact e.facts.1
 have u:=e.small h hf;have hF:=e.fac h y hf (k:=4) (by rcases(show n=1 \/ n=2 \/ n=3 \/ n=4 by omega)with rfl|rfl|rfl|rfl <;> decide);rw[f]at o ⊢;exact Znk Gk hF (λi j _ _=>LeN.mono (u i j) Gj) (λi _=>hx i) o
theorem Zzn{es:List FX}(h:Znj (Zh (qM rs)) rs.length (Zeu es)):Sm (Zfb rs es):=h.s rs.length (Qb _)
theorem LeN.twice{q:Rat}{k:Nat}(h:LeN k q):LeN (k+1) (q*2):=by
 have h2:LeN 1 (2:Rat):=⟨by decide +kernel,by decide +kernel⟩
 have e:∀ a b:Rat,(a*b).num.natAbs<=a.num.natAbs*b.num.natAbs/\(a*b).den<=a.den*b.den:=λa b=>by
  rw[<- Zl3];have hd:((a.den:Int)*(b.den:Nat))≠0:=Int.ne_of_gt (Zck a b);refine⟨Qc (Zn0 _ _ hd) (by rw[Qw];exact Qb _),Qc (Zmf _ _ hd) (by rw[Qw,Qq,Qq];exact Qb _)⟩
 obtain⟨e1,e2⟩:=e q 2;exact⟨Qc e1 (by rw[Zcx];exact Qm h.1 h2.1),Qc e2 (by rw[Zcx];exact Qm h.2 h2.2)⟩
end
theorem Zep(x y:Int)(w:World)(hx1:-9223372036854775808<=x)(hx2:x<=9223372036854775807)(h0:0<y)(hy:y<=9223372036854775807) :
    Calls Tryz.prog 18 #[.int .i64 x,.int .i64 y] w (Zdt w (Rat.divInt x y)):=by
 obtain⟨W0,U,C,q0,s0⟩:=Zan w 41 #[.bool false,.slice none 0 0,.bool false,.slice none 0 0];obtain⟨gR,f⟩:=Gz w.heap.size;rw[f]at q0;go_in;go_wp2_with fail;(try rw[U]);(try rw[f]);rw[f]at C s0;refine(rOf_pos x y W0 hx1 hx2 h0 hy).mono ?_;rintro e w1 ⟨J,pn,pA,pk,pc,pm,pB,pj,pd,rfl,hf⟩;obtain⟨g1,u⟩:=Gz w1.heap.size;obtain⟨V1,O,qv,I⟩:=Zak (w:=w1) 41 #[.bool pn,.slice pA pk pc,.bool pm,.slice pB pj pd];rw[u]at qv;have h:=Gs J I;have q1:=Zc h q0;have T:=Zb (hf.below I);obtain⟨v0,v1,v2,v3,-⟩:=qv.four;obtain⟨c0,c1,c2,c3,z0,z1,z2,z3⟩:=q1.four;clear hf;replace f:=Zb f;go_wp2_with fail;(try rw[u]);(try rw[O]);obtain⟨W5,V,q5,o,s5⟩:=Zr2 pn pA pk pc pm pB pj pd q1;go_wp2_with fail;(try rw[V]);obtain⟨r0,r1,r2,r3,-⟩:=q5.four;refine bodyPost_ret (v:=.agg #[.bool pn,.slice pA pk pc,.bool pm,.slice pB pj pd]) (by simp[results,Tryz.results18,go_sem,r0,r1,r2,r3]) rfl ?_;refine⟨?_,_,_,_,_,_,_,_,_,rfl,T.out.keptV o q1 (Zfq _ _ _ _ _ _ _ _)⟩;rw[f.out];exact C.trans ((h.mono Gk).trans (o.to_below (λk e=>by omega) (by have:=h.size;omega)))
theorem Zmh(A:Option Addr)(n c:Nat)(l:List Int)(w:World)(h:LimI w A n c l)(hn9:n<=900) :
    Calls Tryz.prog 36 #[.slice A n c] w λe w'=>∃ v,e=.returned v/\Below w.heap.size w w'/\OwnF 41 w' w.heap.size v (l.map λ(z:Int)=>(z:Rat)):=by
 obtain⟨iF,hi,a5,a7,a9⟩:=info_parts Ze0;have hl:=Zb h.1;have a4:=h.2.2.1;unfold maxLen at a4;have b4:=h.2.1;replace h:=Zb h;go_in;go_wp2_with fail
 go_loopg [3,4] n (λk ov iv wr=>∃ i:Nat,i+k=n/\iv=.int .i64 i/\Below w.heap.size w wr/\OwnF 41 wr w.heap.size ov ((l.map λ(z:Int)=>(z:Rat)).take i))
 case atStart=>exact⟨0,by omega,rfl,Qz _ _,OwnF.nil _ _ _⟩
 case round =>
  obtain⟨i,b3,rfl,hB,hO⟩:=hrel;cases gk with
  | zero =>
   obtain rfl:i=n:=Gk;have t1:decide ((i:Int)<(i:Int))=false:=Gh;replace hO:=Zb hO;go_wp2_with fail;go_ret;refine⟨_,rfl,hB,?_⟩;have h1:=hO.out;rw[List.take_of_length_le (by rw[Qi,hl.out];exact Qb _)]at h1;exact h1
  | succ k' =>
   obtain rfl:k'=n-(i+1):=Gk;have C:i<n:=Gk;have t1:decide ((i:Int)<(n:Int))=true:=Gv Gk;have bi:(i:Int)<(n:Int):=Gk;have hq:=h.out.below hB;have hz:=Zkp hq.2.2.2.1 i;obtain⟨g,o,rfl,hc⟩:=hq.2.2.2.2 Gk;have k0:=hc i C;have J:=hz;unfold I64 at J;obtain⟨z,f⟩:=Gz (l[i]?.getD 0);rw[f]at k0 J;replace hO:=Zb hO;clear hc hq;go_wp2_with fail;refine(Zep z 1 wr Gk Gk Gj Gj).mono ?_;rintro e w3 ⟨a2,na,B1,m1,d1,nb,B2,m2,d2,rfl,hf⟩;rw[Zx9]at hf;have hs:=hB.size;have u:((l.map λ(z:Int)=>(z:Rat)).take i).length+1<=1000:=by rw[List.length_take,Qi];omega
   have b1:Hid ((l.map λ(z:Int)=>(z:Rat)).take i ++ [(z:Rat)]=(l.map λ(z:Int)=>(z:Rat)).take (i+1)):=Zb (by
    rw[List.take_add_one,Qd,Qa (l:=l) (i:=i) (by rw[hl.out];exact C)];rw[Qa (l:=l) (i:=i) (by rw[hl.out];exact C)]at f;simp only[Qj]at f;rw[f];rfl)
   obtain⟨gy,O⟩:=Gz w3.heap.size;obtain⟨Y1,y⟩:=Gz (w3.alloc (.cells #[.bool na,.slice B1 m1 d1,.bool nb,.slice B2 m2 d2] 41));have a0:Below w3.heap.size w3 Y1:=by rw[<- y];exact(Qz _ _).alloc (Qb _) _
   have a3:Blk Y1 gy 41 #[.bool na,.slice B1 m1 d1,.bool nb,.slice B2 m2 d2]:=by rw[<- y,<- O];exact Blk.new _ _ _
   have a6:Fr Y1 na B1 m1 d1 nb B2 m2 d2 (z:Rat):=hf.below a0;have a1:=Gs a2 a0;have U:=hO.out.kept a1;have V:=hB.trans (a1.mono hs);have T:=V.size;replace u:=Zb u;clear hf f hz J;go_wp2_with ((try rw[y]);(try rw[O]);at_builtin;refine Zdo _ rfl (.tmp 11) (.tmp 17) 35 rfl w.heap.size 41 iF Tryz.underlying35 hi a5 a7 a9 _ _ rfl U _ (some ⟨gy,0,none⟩) 1 1 [⟨na,B1,m1,d1,nb,B2,m2,d2,(z:Rat)⟩] rfl (Zb7 _ a3) rfl (by intro e he;rw[List.mem_singleton]at he;subst he;exact a6) u.out T ?_;intro v2 w5 I b0 b2);have a8:=V.grown b0 T (λk hk=>U.row_ge k hk);simp only[List.map_cons,List.map_nil]at I;rw[b1.out]at I
   go_roundg (n-(i+1))
   case measure=>omega
   case rel=>exact⟨i+1,by omega,by go_num,a8,I⟩
def idxOk(n:Nat)(ls:List Int)(k:Nat):Prop:=(0<=ls[k]?.getD 0/\ls[k]?.getD 0<n)/\∀ j:Nat,j<k->ls[j]?.getD 0≠ls[k]?.getD 0
instance (n:Nat) (ls:List Int) (k:Nat):Decidable (idxOk n ls k):=by unfold idxOk;infer_instance
section
variable{rs:List RX}{ls:List Int}{n:Nat}
end
open Go.ChangeShapes Go.WideShapes Go.Deep Go.RowKit
section
variable{H:Type}{enc:TypeId × Value->H}{P:Program}{w:World}{base:Nat}{spare:Nat->Bool}{held:Bool}
end
section
variable{H:Type}{enc:TypeId × Value->H}{P:Program}
theorem Zop{f:Func}{s:ChangeSpec}{apart fresh handsOn again:Bool}{W W':World}{args:Array Value}{v:Value}{ds gs:List (DataW H)}{before pa pv:List MemPlace}
    (hW:DataW.Whole enc P f.params.toList s.vars apart W args.toList ds gs before)
    (hres:∀ (b:Nat) (sp:Nat->Bool) (hd:Bool),DataW.TrodAll enc P W' b sp hd f.resultTypes.toList (v.resultList f.resultTypes.size) (s.fn H (ds++gs)).results [])
    (hargs:∀ sp:Nat->Bool,(∀ p ∈ before,sp p.block=true)->DataW.TrodAll enc P W' 0 sp true f.params.toList args.toList (s.fn H (ds++gs)).args pa)
    (hvars:∀ sp:Nat->Bool,(∀ p ∈ before,sp p.block=true)->DataW.TrodVars enc P W' sp s.vars (s.fn H (ds++gs)).vars pv)
    (hps:before=pa++pv) (hb:Below W.heap.size W W')
    (hok:∀ (j:Nat) (t:TypeId) (r:Value),f.resultTypes[j]?=some t->(v.resultList f.resultTypes.size)[j]?=some r->Value.okWide P W' .any 0 t r) :
    s.post enc P f apart fresh handsOn again W args v W':=by
 have h:∀ p ∈ before,p.block<W.heap.size:=λp hp=>hW.lt p hp;have e:∀ p ∈ before,(λb=>decide (b<W.heap.size)) p.block=true:=λp hp=>by simpa using h p hp
 refine⟨ds,gs,before,[],pa,pv,hW,hres _ _ _,hargs _ e,hvars _ e,World.keptBut_mono (λp hp=>⟨hp,?_⟩) (hb.frame (· ∈ before)),λ_=>?_⟩
 ·rw[hps,List.mem_append]at hp
  exact Or.inr hp
 obtain⟨_,_,_,_,_,hz,hn⟩:=hW;refine⟨hok,_,_,([]++pa)++pv,⟨[]++pa,pv,trodAll_append (hargs _ (λ_ _=>rfl)) (hres _ _ _),hvars _ (λ_ _=>rfl),rfl,?_,?_⟩,?_⟩
 ·intro b off hp
  have o:MemPlace.cell b off ∈ before:=by rw[hps];simpa using hp
  rw[hb.frozen (h _ o)];exact hz b off o
 ·intro ha
  have:=hn ha;rw[hps]at this;simpa using this
 intro p hp _;rw[hps];simpa using hp
end
theorem Zl5{α:Type}(P:Nat->α->Prop)(n:Nat)(h:∀ i,i<n->∃ e,P i e):∃ es:List α,es.length=n/\∀ (k:Nat) (e:α),es[k]?=some e->P k e:=by
 induction n with
 | zero=>exact⟨[],rfl,λk e h=>by simp at h⟩
 | succ n ih =>
  obtain⟨es,h1,h2⟩:=ih λi hi=>h i Gk;obtain⟨e,he⟩:=h n Gk;refine⟨es ++ [e],by simp[h1],λk e' hk=>?_⟩;rcases QK k es.length with o|f;rw[List.getElem?_append_left o]at hk;exact h2 k e' hk;rw[List.getElem?_append_right f]at hk;rcases Nat.eq_or_lt_of_le f with h0|h0
  ·rw[show k-es.length=0 by omega]at hk
   simp at hk;subst hk;rw[<- h0,h1];exact he
  rw[Qe Gg]at hk;cases hk
theorem Zjn{w:World}{a:Addr}{v:Value}(h:w.cell? a=some v):a=⟨a.block,a.off,none⟩:=by
 obtain⟨b,o,s⟩:=a;cases s with
 | none=>rfl
 | some s =>
  exfalso;unfold World.cell? at h;simp at h
  split at h <;> simp at h
section
variable{H:Type}{enc:TypeId × Value->H}{w:World}{base:Nat}{spare:Nat->Bool}{held:Bool}
end
theorem Fm{G:Prop}(h:G:=by
 have h1:=h.1.ok;have h2:=h.2.ok;have h3:=h.1.sgEq;rw[Int.natAbs_natCast]at h2;have hd:=r.den_pos;have hr:=r.reduced;unfold Nat.Coprime at hr;refine⟨?_,?_⟩
 ·unfold okF
  rw[h1,h2,h.neg,Zi,Zi];simp[length_digits_pos,hd,hr]
 unfold qOf;rw[h3,Zi];exact Rat.num_divInt_den r):G:=h
theorem Fr.rawC{w:World}{na:Bool}{A:Option Addr}{n c:Nat}{nb:Bool}{B:Option Addr}{m d:Nat}{r:Rat}(h:Fr w na A n c nb B m d r):okF na (digits r.num.natAbs) nb (digits r.den)=true/\qOf na (digits r.num.natAbs) (digits r.den)=r:=by
 exact Fm
def Znd(q:Rat):Nat:=max (digits q.num.natAbs).length (digits q.den).length
def Zit(e:FX):Nat × Bool × Rat:=(e.few,e.ok,e.q)
def Zom(r:RX):Nat × List (Nat × Bool × Rat):=(r.n,r.es.map Zit)
def Zh5(rs:List RX):List (Nat × List (Nat × Bool × Rat)):=rs.map Zom
def Zk9(Q:List (List Rat)):List (Nat × List (Nat × Bool × Rat)):=Q.map λr=>(r.length,r.map λq=>(Znd q,true,q))
theorem sig_qM{rs:List RX}:qM rs=(Zh5 rs).map λx=>x.2.map λy=>y.2.2:=by
 unfold qM Zh5;rw[Qs];refine Qh λr _=>?_;simp[Zom,Zit,Function.comp_def]
theorem Zzl{rs:List RX}:long6 rs=(decide (6<(Zh5 rs).length) || (Zh5 rs).any λx=>decide (6<x.1)):=by
 unfold long6 Zh5;rw[Qi,List.any_map];rfl
theorem sig_row{k:Nat}{r:RX}:Zc6 k r=(decide ((Zom r).1=k) && (Zom r).2.all λy=>decide (y.1<=64) && y.2.1):=by
 unfold Zc6 Zci Zom;simp only[List.all_map];rfl
theorem Z0c{k:Nat}{rs:List RX}:rs.all (Zc6 k)=(Zh5 rs).all λx=>decide (x.1=k) && x.2.all λy=>decide (y.1<=64) && y.2.1:=by
 unfold Zh5;rw[List.all_map];congr 1
 funext r
 exact sig_row
theorem FC{G:Prop}(h:G:=by
 obtain⟨g,o,e1,hc⟩:=h5 hn;refine⟨g,o,e1,λk x hx=>?_⟩;rw[List.getElem?_map]at hx;obtain⟨e,he,rfl⟩:=Option.map_eq_some_iff.1 hx;exact hc k e he):G:=h
theorem FL.fxs{w:World}{A:Option Addr}{n c:Nat}{qs:List Rat}(h:FL w A n c qs):∃ es,FXL w A n c es/\es.map FX.q=qs/\es.map Zit=qs.map λq=>(Znd q,true,q):=by
 obtain⟨fs,h1,h2,h3,h4,rfl,h5⟩:=h
 have hk:∀ e ∈ fs,FX.in_ w ⟨e.na,e.A,e.n,e.c,digits e.q.num.natAbs,e.nb,e.B,e.m,e.d,digits e.q.den⟩/\FX.q ⟨e.na,e.A,e.n,e.c,digits e.q.num.natAbs,e.nb,e.B,e.m,e.d,digits e.q.den⟩=e.q/\Zit ⟨e.na,e.A,e.n,e.c,digits e.q.num.natAbs,e.nb,e.B,e.m,e.d,digits e.q.den⟩=(Znd e.q,true,e.q):=λe he=>by
  have h0:Fr w e.na e.A e.n e.c e.nb e.B e.m e.d e.q:=h4 e he;have h2:=h0.2.2.2;rw[Qq]at h2;have h6:=h0.rawC;refine⟨⟨h0.1.2.2,h2⟩,h6.2,?_⟩;unfold Zit FX.few FX.ok FX.q Znd;rw[h6.1,h6.2];have e1:=h0.1.2.2.len;have e2:=h2.len;rw[e1,e2]
 refine⟨fs.map λe=>⟨e.na,e.A,e.n,e.c,digits e.q.num.natAbs,e.nb,e.B,e.m,e.d,digits e.q.den⟩,⟨by rw[Qi];exact h1,h2,h3,λx hx=>?_,λhn=>?_⟩,?_,?_⟩
 ·obtain⟨e,he,rfl⟩:=List.mem_map.1 hx
  exact(hk e he).1
 exact FC
 ·rw[Qs]
  exact Qh λe he=>(hk e he).2.1
 rw[Qs,Qs];exact Qh λe he=>(hk e he).2.2
theorem IF{G:Prop}(h:G:=by
 obtain⟨k,hk,rfl⟩:=List.getElem_of_mem hr;exact(r2 k _ (List.getElem?_eq_getElem hk)).2.1):G:=h
theorem MFL.mxs{w:World}{A:Option Addr}{n c:Nat}{Q:List (List Rat)}(h:MFL w A n c Q):∃ rs,MXL w A n c rs/\qM rs=Q/\Zh5 rs=Zk9 Q:=by
 obtain⟨h1,h2,h3,h4⟩:=h;rcases Qy n with h0|h0
 ·subst h0
  obtain rfl:Q=[]:=Ql h1;exact⟨[],⟨rfl,h2,h3,λr hr=>(by cases hr),λhn=>absurd hn (Nat.lt_irrefl _)⟩,rfl,rfl⟩
 obtain⟨g,o,rfl,hc⟩:=h4 h0
 obtain⟨rs,r1,r2⟩:=Zl5 (λi (r:RX)=>w.cell? ⟨g,o+i,none⟩=some (.slice r.A r.n r.c)/\FXL w r.A r.n r.c r.es/\r.es.map FX.q=Q[i]?.getD []/\Zom r=((Q[i]?.getD []).length,(Q[i]?.getD []).map λq=>(Znd q,true,q))) n (λi hi=>by
  have hq:Q[i]?=some Q[i]:=Qa Gk;obtain⟨A',n',c',k0,hF⟩:=hc i _ hq;obtain⟨es,e1,e2,e3⟩:=hF.fxs;refine⟨⟨A',n',c',es⟩,k0,e1,by rw[hq];exact e2,?_⟩;rw[hq,Qj];unfold Zom;rw[e3,hF.len])
 have ext:∀ {α:Type} (f:RX->α) (g:List Rat->α),(∀ (i:Nat) (r:RX),rs[i]?=some r->f r=g (Q[i]?.getD []))->rs.map f=Q.map g:=λf g hfg=>by
  apply QM;intro i;rw[Qd,Qd];by_cases hi:i<n
  ·have hr:=Qa (l:=rs) (i:=i) Gk
   have hq:Q[i]?=some Q[i]:=Qa Gk;have:=hfg i _ hr;rw[hq,Qj]at this;rw[hr,hq,Qo,Qo,this]
  rw[Qe (l:=rs) Gk,Qe (l:=Q) Gk];rfl
 refine⟨rs,⟨r1,h2,h3,λr hr=>?_,λ_=>⟨g,o,rfl,λk r hk=>(r2 k r hk).1⟩⟩,?_,ext Zom (λr=>(r.length,r.map λq=>(Znd q,true,q))) (λi r hr=>(r2 i r hr).2.2.2)⟩;exact IF;have:=ext (λr=>r.es.map FX.q) id (λi r hr=>(r2 i r hr).2.2.1);rw[List.map_id]at this;exact this
section
variable{Q:Nat->Nat->Rat}{n:Nat}{a b:List Int}{i k:Nat}
end
section
variable{R:List (List Rat)}{n:Nat}{a b:List Int}
end
theorem inv_CD{B n:Nat}{Q X:Nat->Nat->Rat}(hQ:∀ a b,a<n->b<n->BndQ B (Q a b))(hB:1<=B)(hE:∀ c i,c<n->i<n->Zw n (λj=>Q i j*X j c)=if i=c then 1 else 0)(h0:Zat n Q≠0) :
    ∃ D,0<D/\D<=Zbn B n/\∀ c k,c<n->k<n->CD D (Zbn B n) (X k c):=by
 obtain⟨d,hd,y⟩:=Zhn hQ;have u:d≠0:=λe=>h0 (by rw[hd,e];rfl);refine⟨d.natAbs,by omega,y,λc k hc hk=>?_⟩;have f:=Z00 Q (λj=>X j c) (λi=>if i=c then 1 else 0) (λi hi=>hE c i hc hi) hk
 obtain⟨z,hz,o⟩:=Zhn (B:=B) (n:=n) (M:=λa b=>if b=k then (if a=c then 1 else 0)else Q a b) (λa b ha hb=>by
  show BndQ B (if b=k then (if a=c then 1 else 0)else Q a b);by_cases h:b=k
  ·rw[Gx h]
   by_cases h2:a=c;rw[Gx h2];exact⟨1,rfl,by simpa using hB⟩;rw[Gw h2];exact⟨0,rfl,by simp⟩
  rw[Gw h];exact hQ a b ha hb)
 rw[hz,hd]at f;have C:(d:Rat)≠0:=λe=>u (by exact_mod_cast e);rcases Int.natAbs_eq d with h|h
 ·refine⟨z,?_,o⟩
  have h1:((d.natAbs:Nat):Rat)=(d:Rat):=by rw[<- Qt,<- h]
  rw[h1,<- f]
  grind
 refine⟨-z,?_,by rw[Int.natAbs_neg];exact o⟩
 have h1:((d.natAbs:Nat):Rat)=-(d:Rat):=by
  rw[<- Qt,show ((d.natAbs:Nat):Int)=-d by omega,QS]
 rw[h1,QS,<- f]
 grind
def Zd7:Rat:=((1000000000000000000:Int):Rat)
def ofQ(X:Nat->Nat->Rat)(m:Nat):List (List Rat):=(QH m).map λi=>(QH m).map λc=>X i (m+c)*Zd7
section
variable{rs:List RI}{rr ws:List Int}{n m:Nat}
theorem Zgb{i:Nat}(hi:i<m):((Zc7 rs ws n m)[i]?.getD []).length=m:=by rw[Z1p hi,Zt4]
theorem Zle{i j:Nat}(hi:i<m)(hj:j<m):Zh (Zc7 rs ws n m) i j=Zew rs ws n i j:=by
 unfold Zh Zc7;exact Ff
theorem Znr(hn:n<=200)(hE:Zd4 rs rr ws=0)(i j:Nat):BndQ (pw 4) (Zew rs ws n i j):=by
 obtain⟨b1,b2,b3⟩:=sys_b40 hE;exact⟨_,rfl,Z0t hn λr _=>⟨b3 r,b1 r i,b1 r j⟩⟩
theorem Zy8(hn:n<=200)(hE:Zd4 rs rr ws=0)(i j:Nat):BndQ (pw 4) (Zh (Zbe (Zc7 rs ws n m) m m 0) i j):=by
 have h0:BndQ (pw 4) (0:Rat):=BndQ.zero;have h1:BndQ (pw 4) (1:Rat):=⟨1,rfl,Zb1 4⟩;rw[Zg1 (λi hi=>Zgb hi) (Zj3 _ _ _ _)];by_cases hi:i<m
 ·rw[Gx hi]
  by_cases hj:j<m;rw[Gx hj,Zle hi hj];exact Znr hn hE i j;rw[Gw hj]
  split
  ·split
   exact h1;exact h0
  exact h0
 rw[Gw hi];exact h0
def OfP(rs:List RI)(ws:List Int)(n m:Nat)(X:Nat->Nat->Rat):Prop:=
 (∀ c i,c<m->i<m->Zw m (λj=>Zew rs ws n i j*X j (m+c))=if i=c then 1 else 0)/\∃ D,0<D/\D<=pw (5*m)/\∀ c k,c<m->k<m->CD D (pw (5*m)) (X k (m+c))
theorem Zv2(hn:n<=200)(hm:m<=12)(hE:Zd4 rs rr ws=0) :
    okZ (pw 200) (m+m) m 0 0 (Z7 (Zbe (Zc7 rs ws n m) m m 0)) 1/\okR (pw 200) (pw 200) (m+m) m 0 0 (Zbe (Zc7 rs ws n m) m m 0)/\Zr9 (Zbe (Zc7 rs ws n m) m m 0) m (m+m) /\
    (Zap m 0 0 (Z7 (Zbe (Zc7 rs ws n m) m m 0)) false 1).2.1=(Zbf m 0 0 (Zbe (Zc7 rs ws n m) m m 0) false).2.1/\(Zbf m 0 0 (Zbe (Zc7 rs ws n m) m m 0) false).2.1<=m /\
    ((Zbf m 0 0 (Zbe (Zc7 rs ws n m) m m 0) false).2.1<m->Zat m (Zew rs ws n)=0) /\
    ((Zbf m 0 0 (Zbe (Zc7 rs ws n m) m m 0) false).2.1=m->Zat m (Zew rs ws n)≠0/\∃ X:Nat->Nat->Rat,Zhc (Zh (Zbf m 0 0 (Zbe (Zc7 rs ws n m) m m 0) false).1) X m (m+m)/\Zhc (λi j=>(Zaf (Zap m 0 0 (Z7 (Zbe (Zc7 rs ws n m) m m 0)) false 1).1 i j:Rat)) X m (m+m)/\OfP rs ws n m X):=by
 have f:∀ i,i<m->((Zbe (Zc7 rs ws n m) m m 0)[i]?.getD []).length=m+m:=λi hi=>by
  rw[Zk4 hi,Gx hi,QL,Zgb hi];simp[Zf2]
 obtain⟨o1,o2,o3,o4,o5,o6,o7⟩:=Zqy (b:=4) (n:=m) (m:=m+m) (R:=Zbe (Zc7 rs ws n m) m m 0) (λi j=>Zy8 hn hE i j) (Zps _ _ _ _) Gk f Gk Gk Gk
 have e:Zat m (Zh (Zbe (Zc7 rs ws n m) m m 0))=Zat m (Zew rs ws n):=Za6 λi j hi hj=>by
  rw[Zg1 (λi hi=>Zgb hi) (Zj3 _ _ _ _),Gx hi,Gx hj,Zle hi hj]
 rw[e]at o6 o7;refine⟨o1,o2,o3,o4,o5,o6,λhr=>?_⟩;obtain⟨x1,X,x2,x3,x4⟩:=o7 hr
 have hS:∀ c i,c<m->i<m->Zw m (λj=>Zew rs ws n i j*X j (m+c))=if i=c then 1 else 0:=λc i hc hi=>by
  have h6:=x4 i (m+c) hi Gk Gk;rw[Zg1 (λi hi=>Zgb hi) (Zj3 _ _ _ _),Gx hi,Gw Gk,Nat.add_sub_cancel_left,Gx hc]at h6;rw[<- h6];exact Zq λj hj=>by rw[Zg1 (λi hi=>Zgb hi) (Zj3 _ _ _ _),Gx hi,Gx hj,Zle hi hj]
 obtain⟨D,d1,d2,d3⟩:=inv_CD (B:=pw 4) (n:=m) (Q:=Zew rs ws n) (X:=λj c=>X j (m+c)) (λa b _ _=>Znr hn hE a b) (Zb1 4) hS x1;have h:=Zkh (b:=4) m Gk;exact⟨x1,X,x2,x3,hS,D,d1,Qc d2 h,λc k hc hk=>(d3 c k hc hk).mono h⟩
end
theorem Zxz(A:Option Addr)(n c:Nat)(w:World)(hn:n<=maxLen) :
    Calls Tryz.prog 42 #[.slice A n c] w λe w'=>e=.returned (.bool (decide (6<n)))/\Below w.heap.size w w':=by
 exact CA
def RI.long6(r:RI):Bool:=decide (6<r.n)
theorem Zys(A:Option Addr)(n c:Nat)(rs:List RI)(w:World)(h:MIL w A n c rs)(b:Bool)(hb:rs.any RI.long6=b) :
    Calls Tryz.prog 79 #[.slice A n c,.func (.func 42) #[] #[]] w (IdxB w b):=by
 have hl:=h.1;have u:=h.2.1;have f:=h.2.2.1;unfold maxLen at f;replace hl:=Zb hl;replace hb:=Zb hb;replace h:=Zb h;go_in;go_wp2_with fail
 go_loopw [8] (λiv wr=>∃ i:Nat,i<=n/\iv=.int .i64 i/\Hid (∀ j e,j<i->rs[j]?=some e->e.long6=false)/\Below w.heap.size w wr) (λiv _=>n-(intOf iv).toNat)
 case atStart=>exact⟨0,Qx _,rfl,Zb (λj e hj=>by omega),Qz _ _⟩
 case round =>
  obtain⟨i,y,rfl,au,aH⟩:=hrel;by_cases hin:i<n
  case neg =>
   exact Em
  have fH:decide ((i:Int)<(n:Int))=true:=Gv Gk;obtain⟨g,o,r,rfl,he,c0,hL⟩:=(h.out.below aH).at_ hin;have hC:=Zb (λW1=>Zxz r.A r.n r.c W1 hL.nlen);clear hL;by_cases hx:6<r.n
  ·obtain rfl:b=true:=by
     rw[<- hb.out,List.any_eq_true];exact⟨r,Qk he,by unfold RI.long6;simpa using hx⟩
   exact Cb
  have ay:Hid (∀ j e,j<i+1->rs[j]?=some e->e.long6=false):=Zb (λj e' hj he'=>by
    rcases QK j i with h'|h';exact au.out j e' h' he';obtain rfl:j=i:=Gk;rw[he]at he';cases he';unfold RI.long6;simpa using hx)
  exact Cc
theorem Zvg(A:Option Addr)(n c:Nat)(rs:List RI)(w:World)(h:MIL w A n c rs)(b:Bool)(hb:rs.any RI.long6=b) :
    Calls Tryz.prog 41 #[.slice A n c,.func (.func 42) #[] #[]] w λe w'=>e=.returned (.bool b)/\Below w.heap.size w w':=by
 go_in;go_wp2_with fail;refine(Zys A n c rs w h b hb).mono ?_;exact EX
def ofE(rs:List RI)(ws:List Int):Int:=if rs.any RI.long6=true then 4 else if Zd4 rs (Qg (min rs.length 200) 0) ws≠0 then Zd4 rs (Qg (min rs.length 200) 0) ws else if Zat (n0I rs) (Zew rs ws rs.length)=0 then 22 else 0
section
variable{rs:List RI}{ws:List Int}{E:Int}
theorem Zse(h:rs.any RI.long6=true):ofE rs ws=4:=by unfold ofE;rw[Gx h]
theorem Zwg(h:rs.any RI.long6=false)(hE:Zd4 rs (Qg (min rs.length 200) 0) ws=E)(h0:E≠0):ofE rs ws=E:=by
 unfold ofE;rw[Gw (by rw[h];decide),hE,Gx h0]
theorem Zwo(h:rs.any RI.long6=false)(hE:Zd4 rs (Qg (min rs.length 200) 0) ws=0)(hd:Zat (n0I rs) (Zew rs ws rs.length)=0):ofE rs ws=22:=by
 unfold ofE;rw[Gw (by rw[h];decide),hE,Gw Gh,Gx hd]
theorem Z03(h:rs.any RI.long6=false)(hE:Zd4 rs (Qg (min rs.length 200) 0) ws=0)(hd:Zat (n0I rs) (Zew rs ws rs.length)≠0):ofE rs ws=0:=by
 unfold ofE;rw[Gw (by rw[h];decide),hE,Gw Gh,Gw hd]
end
def OfPost(rs:List RI)(ws:List Int)(X:Nat->Nat->Rat)(w:World)(e:Ending)(w':World):Prop:=
 Below w.heap.size w w'/\((ofE rs ws=0/\∃ rt,Zh5 rt=Zk9 (ofQ X (n0I rs))/\((Za2 rt=0/\∃ A c,e=.returned (.tuple #[.slice A (n0I rs) c,.int .i64 0])/\MFL w' A (n0I rs) c (ofQ X (n0I rs))) \/ (Za2 rt≠0/\e=.returned (.tuple #[.slice none 0 0,.int .i64 16])))) \/
  (ofE rs ws≠0/\e=.returned (.tuple #[.slice none 0 0,.int .i64 (ofE rs ws)])))
theorem OfPost.fall{rs:List RI}{ws:List Int}{X:Nat->Nat->Rat}{w w':World}{E:Int}(hb:Below w.heap.size w w')(h:ofE rs ws=E)(h0:E≠0):OfPost rs ws X w (.returned (.tuple #[.slice none 0 0,.int .i64 E])) w':=by
 subst h;exact⟨hb,.inr ⟨h0,rfl⟩⟩
def ScT(L L2:List RF)(m i k:Nat)(S:Rat):Prop:=
 L2.length=m/\L2.map RF.g=L.map RF.g/\(∀ (j:Nat) (r:RF),L2[j]?=some r->r.q.length=m)/\∀ j c,j<m->c<m->Zh (L2.map RF.q) j c=if j<i \/ (j=i/\c<k)then Zh (L.map RF.q) j c*S else Zh (L.map RF.q) j c
section
variable{L L2:List RF}{m i k:Nat}{S:Rat}
theorem ScT.start(hl:L.length=m)(hr:∀ (j:Nat) (r:RF),L[j]?=some r->r.q.length=m):ScT L L m 0 0 S:=
 ⟨hl,rfl,hr,λj c _ _=>by rw[Gw Gk]⟩
theorem ScT.step(h:ScT L L2 m i k S){r:RF}(hr:L2[i]?=some r)(hi:i<m)(hk:k<m){x:Rat}(hx:x=Zh (L.map RF.q) i k*S):ScT L (L2.set i ⟨r.g,r.c,r.q.set k x⟩) m i (k+1) S:=by
 obtain⟨h1,h2,h3,h4⟩:=h;have e:i<L2.length:=Gk;have o:=h3 i r hr;refine⟨by rw[QT];exact h1,?_,λj s hs=>?_,λj c hj hc=>?_⟩;rw[Ze1 (f:=RF.g) (s:=⟨r.g,r.c,r.q.set k x⟩) hr rfl];exact h2
 ·rw[QN]at hs
  by_cases hij:i=j
  ·subst hij
   rw[Gx rfl,Gx e]at hs;cases hs;rw[QT];exact o
  rw[Gw hij]at hs;exact h3 j s hs
 rw[Zkn,Zsy e];have h5:=h4 j c hj hc;rw[Zkn]at h5;by_cases hji:j=i
 ·subst hji
  rw[Gx rfl];rw[Zgl hr]at h5;show (r.q.set k x)[c]?.getD 0=_;rw[QN];by_cases hkc:k=c
  ·subst hkc
   rw[Gx rfl,Gx Gk,Gx Gk,Qj];exact hx
  rw[Gw hkc,h5];by_cases hck:c<k;rw[Gx Gk,Gx Gk];rw[Gw Gk,Gw Gk]
 rw[Gw hji,h5];by_cases hj2:j<i;rw[Gx Gk,Gx Gk];rw[Gw Gk,Gw Gk]
theorem ScT.next(h:ScT L L2 m i m S):ScT L L2 m (i+1) 0 S:=by
 obtain⟨h1,h2,h3,h4⟩:=h;refine⟨h1,h2,h3,λj c hj hc=>?_⟩;rw[h4 j c hj hc];by_cases hj2:j<i+1;rw[Gx Gk,Gx Gk];rw[Gw Gk,Gw Gk]
theorem ScT.done(h:ScT L L2 m m 0 S):L2.map RF.q=(QH m).map λj=>(QH m).map λc=>Zh (L.map RF.q) j c*S:=by
 obtain⟨h1,h2,h3,h4⟩:=h;refine QP (by simp[h1]) λj hj1 hj2=>?_;rw[Qi,h1]at hj1;have hs:L2[j]?=some L2[j]:=Qa Gk;have hq:=h3 j _ hs;refine QP (by simp[hq]) λc hc1 hc2=>?_;have hc:c<m:=by simpa [hq]using hc1
 have h5:=h4 j c hj1 hc;rw[Gx Gk]at h5
 have h6:Zh (L2.map RF.q) j c=(L2[j].q)[c]'(by omega):=by
  unfold Zh;rw[Qd,hs,Qo,Qj,Qa Gk,Qj]
 rw[h6]at h5;simp[h5]
end
def InvZB(Q:List (List Rat))(n:Nat)(X:Nat->Nat->Rat)(w:World)(e:Ending)(w':World):Prop:=
 ((Zap n 0 0 (Z7 (Zbe Q n n 0)) false 1).2.1<n/\e=.returned (.tuple #[.slice none 0 0,.int .i64 18])/\Below w.heap.size w w') \/
 ((Zap n 0 0 (Z7 (Zbe Q n n 0)) false 1).2.1=n/\∃ gO L,e=.returned (.tuple #[.slice (some ⟨gO,0,none⟩) n n,.int .i64 0])/\Below w.heap.size w w'/\MatB 35 41 w' gO L/\L.map RF.q=Zjx X n (n+n)/\w.heap.size<=gO/\∀ r ∈ L,w.heap.size<=r.g)
theorem Zor(A:Option Addr)(n c:Nat)(rs:List RX)(w:World)(h:MXL w A n c rs)(hs:sqE rs=0)(hn9:n<=12)(V:okZ (pw 200) (n+n) n 0 0 (Z7 (Zbe (qM rs) n n 0)) 1)(hfin:Zr9 (Zbe (qM rs) n n 0) n (n+n))(a0:(Zap n 0 0 (Z7 (Zbe (qM rs) n n 0)) false 1).2.1<=n)
    (X:Nat->Nat->Rat) (hX:(Zap n 0 0 (Z7 (Zbe (qM rs) n n 0)) false 1).2.1=n->Zhc (λi j=>(Zaf (Zap n 0 0 (Z7 (Zbe (qM rs) n n 0)) false 1).1 i j:Rat)) X n (n+n)) :
    Calls Tryz.prog 43 #[.slice A n c] w (InvZB (qM rs) n X w):=by
 have hmx:=Gt;have c1:(35:TypeId)≠41:=Gj;obtain⟨a1,b9⟩:=Zx7 hs;obtain⟨f1,f2,f3,f4,f5⟩:=Zjc a1;have hl:=h.1;have b8:(qM rs).length=n:=Zvt h;have T:=qM_row h a1;rw[show n0R rs=n by omega]at T;have O:=h.good a1;obtain⟨W0,b6,o,q0,s0⟩:=Zan w 25 #[.slice A n c];have k0:=q0.cell 0;simp at k0;obtain⟨Q,hQ⟩:=Gz (qM rs);rw[hQ]at b8 T O V hfin a0;rw[hQ]at hX;replace hX:=Zb hX;unfold InvZB;rw[hQ];have c0:1<=n:=Gk;replace h:=Zb (h.below o);replace hs:=Zb hs;replace O:=Zb (O.below o);replace T:=Zb T;replace V:=Zb V;replace a0:=Zb a0;replace hfin:=Zb hfin;clear f3 f4 f5 a1 b9;go_in;go_wp2_with fail;(try rw[b6]);go_wp2_with fail;refine(Zsq A n c rs W0 h.out 0 hs.out).mono ?_;rintro e w1 ⟨rfl,C⟩;have q1:=Zc C q0;replace O:=Zb (O.out.below C);clear k0;go_wp2_with fail;obtain⟨X0,a3⟩:=Gz w1.drew;have u:Below w1.heap.size w1 X0:=by rw[<- a3];exact Zf (Qz _ _) 1
 have f:Hid (∀ wx,Below w1.heap.size w1 wx->wx.cell? ⟨w.heap.size,0,none⟩=some (.slice A n c)):=Zb (λwx hbx=>by
  have h1:=(q1.below hbx q1.lt).cell 0;simpa using h1)
 refine wp_heldS [] hmx f (by rw[a3];exact u) (λhxs=>?_);rw[a3];refine Zj9 4 [0,1,3,4] rfl Gi (f.out _ u) ?_
 iterate 4 (refine tkA ?_;try simp only[QF,Zhb,Zgo,Zg6,Gr,Gq,Gp])
 refine tk0 ?_;refine wpAnyL_o 2 λK hK=>?_;go_simp;refine(Zw4 81 (.pointer (some ⟨w.heap.size,0,none⟩)) A n c n n Q (λi=>Zf2 n i) X0 (O.out.below u) Gk T.out Gk Gk Gk Gk (λi hi=>Zid _ _) (λx W=>Zm7 _ _ _) (λW i hbW hi=>Ztd w.heap.size A n c i W (((q1.below u q1.lt)).below hbW (q1.below u q1.lt).lt) Gk hi)).mono ?_;rintro e w3 ⟨go,L,rfl,b4,-,a7,a9,b3⟩
 have U:L.map RF.q=Zbe Q n n 0:=by
  rw[b3];unfold Zbe;refine Qh λj hj=>?_;rw[Gx (List.mem_range.1 hj)]
 have Y:=a9.mfl a7 (Qb n) (by unfold maxLen;omega);rw[U]at Y;have y:=Gs u b4
 have a2:∀ j,j<n->((Zbe Q n n 0)[j]?.getD []).length=n+n:=λj hj=>by
  rw[Zk4 hj,Gx hj,QL,T.out j hj,Zid]
 replace Y:=Zb Y;replace a2:=Zb a2;refine hK.out _ _ (λ_=>f.out _ y) ?_;clear hK K a9 U b3 b4 a7
 try simp only[QF,Zhb,Zgo,Zg6]
 by_cases J:(Zap n 0 0 (Z7 (Zbe Q n n 0)) false 1).2.1<n
 ·skip
  replace J:=Zb J;refine wpAnyL_o 5 λK hK=>?_;go_simp;refine(Z0i (some ⟨go,0,none⟩) n n (n+n) (Zbe Q n n 0) w3 Y.out Gk Gk Gk Gk a2.out V.out hfin.out J.out).mono ?_;rintro e w5 ⟨rfl,a4⟩;have I:=Gs y a4;refine hK.out _ _ (λ_=>f.out _ I) ?_;clear hK K
  try simp only[QF,Zhb,Zgo,Zg6]
  refine Zgp 5 [6,7,8,9,10] rfl Gi (f.out _ I) ?_
  iterate 5 (refine tkA ?_;try simp only[QF,Zhb,Zgo,Zg6,Gr,Gq,Gp])
  refine tk0 ?_;refine wpAnyL_fin ?_;have a5:Below w.heap.size w w5:=o.trans (C.mono o.size |>.trans (I.mono (Qc o.size C.size)));clear hxs f u y;go_wp2_with fail;go_returns;exact .inl ⟨J.out,rfl,a5⟩
 skip
 have a6:Hid ((Zap n 0 0 (Z7 (Zbe Q n n 0)) false 1).2.1=n):=Zb (Nat.le_antisymm a0.out (Nat.not_lt.1 J));clear J;refine wpAnyL_o 5 λK hK=>?_;go_simp;refine(Zzt (some ⟨go,0,none⟩) n n (n+n) (Zbe Q n n 0) w3 Y.out Gk Gk Gk Gk a2.out V.out hfin.out a6.out X (hX.out a6.out)).mono ?_;rintro e w5 ⟨gO,L5,rfl,a4,b7,b2,b0,a8⟩;have I:=Gs y a4;have b1:Hid (w.heap.size<=gO/\∀ r ∈ L5,w.heap.size<=r.g):=Zb ⟨Qc (Qc o.size (Qc C.size y.size)) b7,λr hr=>Qc (Qc o.size (Qc C.size y.size)) (a8 r hr)⟩;have b5:=Zb (show MatB 35 41 w5 gO L5 from b2);refine hK.out _ _ (λ_=>f.out _ I) ?_;clear hK K
 try simp only[QF,Zhb,Zgo,Zg6]
 refine Zgp 5 [6,7,8,9,10] rfl Gi (f.out _ I) ?_
 iterate 5 (refine tkA ?_;try simp only[QF,Zhb,Zgo,Zg6,Gr,Gq,Gp])
 refine tk0 ?_;refine wpAnyL_fin ?_;have a5:Below w.heap.size w w5:=o.trans (C.mono o.size |>.trans (I.mono (Qc o.size C.size)));clear hxs f u y b2;go_wp2_with fail;go_returns;exact .inr ⟨a6.out,gO,L5,rfl,a5,b5.out,b0,b1.out.1,b1.out.2⟩
theorem Zwv{z:Int}(h:(Lit.int .u32 z).wf=true):0<=z/\z<=4294967295:=by
 simp only[Lit.wf,QQ,decide_eq_true_eq]at h;exact h
section
variable{H:Type}{enc:TypeId × Value->H}{w:World}{base:Nat}{spare:Nat->Bool}{held:Bool}
theorem FF{G:Prop}(h:G:=by
 obtain⟨b,o,s⟩:=a;refine⟨b,o,?_⟩;unfold Addr.add at hp
 split at hp <;> simp_all):G:=h
theorem Zya{fuel:Nat}{cs:List Value}{x:DataW H × List MemPlace}(h:DataW.trod enc Tryz.prog w base spare held fuel 37 cs=some x):∃ (A:Option Addr) (n c:Nat) (l:List Nat),cs=[.slice A n c]/\Lim w A n c l:=by
 rcases open_ints Tryz.underlying37 Tryz.underlying106 Gi h with ⟨rfl,_⟩|⟨a,len,cap,zs,rfl,_,hl,hm,hz,_,e,u⟩;exact⟨none,0,0,[],rfl,Lim.nil _ _ _ (Qx _)⟩;have C:len<=zs.length:=by rw[hz];split <;> omega
 refine⟨some a,len,cap,(zs.take len).map Int.toNat,rfl,by simp;omega,hl,hm,λv hv=>?_,λhn=>?_⟩
 ·obtain⟨z,y,rfl⟩:=List.mem_map.1 hv
  have:=Zwv (u z (List.mem_of_mem_take y));omega
 have h0:=e 0 Gk;have hp:=Zjn h0
 obtain⟨b,o,s⟩:∃ b o,a=⟨b,o,none⟩:=by
  exact FF
 subst s;refine⟨b,o,rfl,λk hk=>?_⟩;have hc:=e k Gk;rw[Zg]at hc;rw[hc];have f:k<zs.length:=Gk;have hw:=Zwv (u zs[k] (Qr f));rw[Qd,List.getElem?_take,Gx hk,Qa f,List.getD_eq_getElem?_getD,Qa f];simp[limb];omega
theorem Zne{fuel:Nat}{cs:List Value}{x:DataW H × List MemPlace}(h:DataW.trod enc Tryz.prog w base spare held fuel 39 cs=some x):∃ (na:Bool) (A:Option Addr) (n c:Nat) (l:List Nat),cs=[.bool na,.slice A n c]/\Lim w A n c l:=by
 obtain⟨xs,n',_,_,hl,e,f⟩:=DataW.trod_struct Tryz.underlying39 h;have c2:Tryz.prog.cellsOf 39=2:=Gi;have c0:Tryz.prog.cellsOf 4=1:=Gi;have c1:Tryz.prog.cellsOf 37=1:=Gi;rw[c2]at hl
 obtain⟨x,y,rfl⟩:∃ x y,cs=[x,y]:=by
  match cs,hl with
  | [x,y],_=>exact⟨x,y,rfl⟩
 have f0:=f 0 _ rfl;have f1:=f 1 _ rfl;simp only[QI,QC,QD]at f0 f1;rw[c0]at f0;rw[c1]at f1;have g0:xs[0]?=some (xs[0]'(by rw[e];decide)):=Qa _;have g1:xs[1]?=some (xs[1]'(by rw[e];decide)):=Qa _;rw[g0]at f0;rw[g1]at f1;obtain⟨b,e0,_⟩:=DataW.trod_bool Tryz.underlying4 f0;obtain⟨A,n,c,l,e1,hL⟩:=Zya f1;simp at e0 e1;subst e0 e1;exact⟨b,A,n,c,l,rfl,hL⟩
theorem Zty{fuel:Nat}{cs:List Value}{x:DataW H × List MemPlace}(h:DataW.trod enc Tryz.prog w base spare held fuel 41 cs=some x) :
    ∃ (na nb:Bool) (A B:Option Addr) (n c m d:Nat) (la lb:List Nat),cs=[.bool na,.slice A n c,.bool nb,.slice B m d]/\Lim w A n c la/\Lim w B m d lb:=by
 obtain⟨xs,n',_,_,hl,e,f⟩:=DataW.trod_struct Tryz.underlying41 h;have c4:Tryz.prog.cellsOf 41=4:=Gi;have c2:Tryz.prog.cellsOf 39=2:=Gi;rw[c4]at hl
 obtain⟨x,y,z,u,rfl⟩:∃ x y z u,cs=[x,y,z,u]:=by
  match cs,hl with
  | [x,y,z,u],_=>exact⟨x,y,z,u,rfl⟩
 have f0:=f 0 _ rfl;have f1:=f 1 _ rfl;simp only[QI,QC,QD]at f0 f1;rw[c2]at f0 f1;have g0:xs[0]?=some (xs[0]'(by rw[e];decide)):=Qa _;have g1:xs[1]?=some (xs[1]'(by rw[e];decide)):=Qa _;rw[g0]at f0;rw[g1]at f1;obtain⟨na,A,n,c,la,e0,h0⟩:=Zne f0;obtain⟨nb,B,m,d,lb,e1,h1⟩:=Zne f1;simp at e0 e1;obtain⟨rfl,rfl⟩:=e0;obtain⟨rfl,rfl⟩:=e1;exact⟨na,nb,A,B,n,c,m,d,la,lb,rfl,h0,h1⟩
end
section
variable{H:Type}{enc:TypeId × Value->H}{w:World}{base:Nat}{spare:Nat->Bool}{held:Bool}
theorem CF{G:Prop}(h:G:=by
 have h0:=dI 0 _ (List.getElem?_eq_getElem Gk);have hp:=Zjn h0.1;exact FF):G:=h
theorem Zlo{fuel:Nat}{cs:List Value}{x:DataW H × List MemPlace}(h:DataW.trod enc Tryz.prog w base spare held fuel 35 cs=some x):∃ (A:Option Addr) (n c:Nat) (es:List FX),cs=[.slice A n c]/\FXL w A n c es:=by
 have c4:Tryz.prog.cellsOf 41=4:=Gi;rcases open_slice Tryz.underlying35 h with ⟨y,_⟩|⟨a,n,c,m,f,D,Pl,y,_,hl,hm,C,_,hi⟩;exact⟨none,0,0,[],y,rfl,Qb _,Qx _,λe he=>(by cases he),λh=>absurd h Gk⟩;have O:n<=m:=by rw[C];split <;> omega
 rw[c4]at hi
 obtain⟨es,I,dI⟩:=Zl5 (λi (e:FX)=>w.cell? (a.add (i*4+0))=some (.bool e.na)/\w.cell? (a.add (i*4+1))=some (.slice e.A e.n e.c)/\w.cell? (a.add (i*4+2))=some (.bool e.nb)/\w.cell? (a.add (i*4+3))=some (.slice e.B e.m e.d)/\e.in_ w) n (λi hin=>by
  obtain⟨J,hc,ht⟩:=hi i Gk;obtain⟨na,nb,A,B,n1,c1,m1,d1,la,lb,rfl,h1,h2⟩:=Zty ht;obtain⟨_,_,u⟩:=World.cells?_some hc;have g0:=u 0 Gh;have g1:=u 1 Gh;have g2:=u 2 Gh;have g3:=u 3 Gh;rw[Go.Deep.add_add]at g0 g1 g2 g3;exact⟨⟨na,A,n1,c1,la,nb,B,m1,d1,lb⟩,by simpa using g0,by simpa using g1,by simpa using g2,by simpa using g3,h1,h2⟩)
 refine⟨some a,n,c,es,y,I,hl,hm,λe he=>?_,λhn=>?_⟩
 ·obtain⟨k,hk,rfl⟩:=Qv he
  exact(dI k _ (Qa hk)).2.2.2.2
 obtain⟨b,o,rfl⟩:∃ b o,a=⟨b,o,none⟩:=by
   exact CF
 refine⟨b,o,rfl,λk e hk=>?_⟩;have h0:=dI k e hk;rw[Zg,Zg,Zg,Zg]at h0;exact⟨h0.1,by rw[QJ];exact h0.2.1,by rw[QJ];exact h0.2.2.1,by rw[QJ];exact h0.2.2.2.1⟩
theorem Zyh{fuel:Nat}{cs:List Value}{x:DataW H × List MemPlace}(h:DataW.trod enc Tryz.prog w base spare held fuel 25 cs=some x):∃ (A:Option Addr) (n c:Nat) (rs:List RX),cs=[.slice A n c]/\MXL w A n c rs:=by
 have c1:Tryz.prog.cellsOf 35=1:=Gi;rcases open_slice Tryz.underlying25 h with ⟨u,_⟩|⟨a,n,c,m,f,D,Pl,u,_,hl,hm,y,_,hi⟩;exact⟨none,0,0,[],u,rfl,Qb _,Qx _,λe he=>(by cases he),λh=>absurd h Gk⟩;have O:n<=m:=by rw[y];split <;> omega
 rw[c1]at hi
 obtain⟨rs,I,dI⟩:=Zl5 (λi (r:RX)=>w.cell? (a.add i)=some (.slice r.A r.n r.c)/\FXL w r.A r.n r.c r.es) n (λi hin=>by
  obtain⟨J,hc,ht⟩:=hi i Gk;obtain⟨A,n1,c1,es,rfl,h1⟩:=Zlo ht;obtain⟨_,_,C⟩:=World.cells?_some hc;have g0:=C 0 Gh;rw[Go.Deep.add_add]at g0;exact⟨⟨A,n1,c1,es⟩,by simpa using g0,h1⟩)
 refine⟨some a,n,c,rs,u,I,hl,hm,λr hr=>?_,λhn=>?_⟩
 ·obtain⟨k,hk,rfl⟩:=Qv hr
  exact(dI k _ (Qa hk)).2
 obtain⟨b,o,rfl⟩:∃ b o,a=⟨b,o,none⟩:=by
   exact CF
 refine⟨b,o,rfl,λk r hk=>?_⟩;have h0:=dI k r hk;rw[Zg]at h0;exact h0.1
theorem Z0s{r:Reach}{b0:Nat}{v:Value}{d:DataW H}{p:List MemPlace}(hv:Value.okWide Tryz.prog w r b0 25 v)(h:DataW.Trod enc Tryz.prog w base spare held 25 v d p) :
    ∃ (A:Option Addr) (n c:Nat) (rs:List RX),v=.slice A n c/\MXL w A n c rs:=by
 obtain⟨A,n,c,rfl⟩:=okWide_slice Tryz.underlying25 hv;obtain⟨fuel,hf⟩:=h;obtain⟨A',n',c',rs,e,hM⟩:=Zyh hf;simp[Value.cells]at e;obtain⟨rfl,rfl,rfl⟩:=e;exact⟨_,_,_,rs,rfl,hM⟩
theorem Zuc{r:Reach}{b0:Nat}{v:Value}{d:DataW H}{p:List MemPlace}(hv:Value.okWide Tryz.prog w r b0 35 v)(h:DataW.Trod enc Tryz.prog w base spare held 35 v d p) :
    ∃ (A:Option Addr) (n c:Nat) (es:List FX),v=.slice A n c/\FXL w A n c es:=by
 obtain⟨A,n,c,rfl⟩:=okWide_slice Tryz.underlying35 hv;obtain⟨fuel,hf⟩:=h;obtain⟨A',n',c',es,e,hM⟩:=Zlo hf;simp[Value.cells]at e;obtain⟨rfl,rfl,rfl⟩:=e;exact⟨_,_,_,es,rfl,hM⟩
end
theorem Fr.raw{w:World}{na:Bool}{A:Option Addr}{n c:Nat}{nb:Bool}{B:Option Addr}{m d:Nat}{r:Rat}(h:Fr w na A n c nb B m d r):okF na (digits r.num.natAbs) nb (digits r.den)=true/\qOf na (digits r.num.natAbs) (digits r.den)=r:=by
 exact Fm
def FE.fx(e:FE):FX:=⟨e.na,e.A,e.n,e.c,digits e.q.num.natAbs,e.nb,e.B,e.m,e.d,digits e.q.den⟩
def Sm8(q:Rat):Prop:=q.num.natAbs<pw 8/\q.den<pw 8
theorem FE.fx_ok{w:World}{e:FE}(h:e.in_ w)(hs:Sm8 e.q):e.fx.in_ w/\e.fx.fine=true/\e.fx.q=e.q:=by
 have h0:Fr w e.na e.A e.n e.c e.nb e.B e.m e.d e.q:=h;have h1:=h0.1.2.2;have h2:=h0.2.2.2;rw[Qq]at h2;refine⟨⟨h1,h2⟩,?_,h0.raw.2⟩;unfold FX.fine;rw[QQ];refine⟨Gv ?_,h0.raw.1⟩;have a1:=(Zr _ 8).2 hs.1;have a2:=(Zr _ 8).2 hs.2;have b1:=h1.len;have b2:=h2.len;unfold FX.few FE.fx;simp only;omega
theorem FL.fxl{w:World}{A:Option Addr}{n c:Nat}{qs:List Rat}(h:FL w A n c qs)(hs:∀ q ∈ qs,Sm8 q):∃ es,FXL w A n c es/\es.map FX.q=qs/\Zex es=true:=by
 obtain⟨fs,h1,h2,h3,h4,rfl,h5⟩:=h;have hk:∀ e ∈ fs,e.fx.in_ w/\e.fx.fine=true/\e.fx.q=e.q:=λe he=>FE.fx_ok (h4 e he) (hs _ (List.mem_map_of_mem he));refine⟨fs.map FE.fx,⟨by rw[Qi];exact h1,h2,h3,λx hx=>?_,λhn=>?_⟩,?_,?_⟩
 ·obtain⟨e,he,rfl⟩:=List.mem_map.1 hx
  exact(hk e he).1
 exact FC
 ·rw[Qs]
  exact Qh λe he=>(hk e he).2.2
 unfold Zex;rw[QR];intro x hx;obtain⟨e,he,rfl⟩:=List.mem_map.1 hx;exact(hk e he).2.1
theorem MFL.mxl{w:World}{A:Option Addr}{n c:Nat}{Q:List (List Rat)}(h:MFL w A n c Q)(hs:∀ r ∈ Q,∀ q ∈ r,Sm8 q):∃ rs,MXL w A n c rs/\qM rs=Q/\∀ (i:Nat) (r:RX),rs[i]?=some r->r.n=(Q[i]?.getD []).length/\Zex r.es=true:=by
 obtain⟨h1,h2,h3,h4⟩:=h;rcases Qy n with h0|h0
 ·subst h0
  obtain rfl:Q=[]:=Ql h1;exact⟨[],⟨rfl,h2,h3,λr hr=>(by cases hr),λhn=>absurd hn (Nat.lt_irrefl _)⟩,rfl,λi r hr=>(by simp at hr)⟩
 obtain⟨g,o,rfl,hc⟩:=h4 h0
 obtain⟨rs,r1,r2⟩:=Zl5 (λi (r:RX)=>w.cell? ⟨g,o+i,none⟩=some (.slice r.A r.n r.c)/\FXL w r.A r.n r.c r.es/\r.es.map FX.q=Q[i]?.getD []/\Zex r.es=true/\r.n=(Q[i]?.getD []).length) n (λi hi=>by
  have hq:Q[i]?=some Q[i]:=Qa Gk;obtain⟨A',n',c',k0,hF⟩:=hc i _ hq;obtain⟨es,e1,e2,e3⟩:=hF.fxl (hs _ (Qr _));exact⟨⟨A',n',c',es⟩,k0,e1,by rw[hq];exact e2,e3,by rw[hq];exact hF.len.symm⟩)
 refine⟨rs,⟨r1,h2,h3,λr hr=>?_,λ_=>⟨g,o,rfl,λk r hk=>(r2 k r hk).1⟩⟩,?_,λi r hr=>⟨(r2 i r hr).2.2.2.2,(r2 i r hr).2.2.2.1⟩⟩;exact IF;unfold qM;apply QM;intro i;rw[Qd];by_cases hi:i<n
 ·have hr:=Qa (l:=rs) (i:=i) Gk
  have hq:Q[i]?=some Q[i]:=Qa Gk;have:=(r2 i _ hr).2.2.1;rw[hq]at this;rw[hr,hq,Qo];exact congrArg some this
 rw[Qe Gk,Qe (l:=Q) Gk];rfl
theorem Zz5{w:World}{A:Option Addr}{n c m:Nat}{rs:List RX}(h:MXL w A n c rs)(hn:0<n)(hn12:n<=12)(hm:0<m)(hm12:m<=12)(hr:∀ r ∈ rs,r.n=m/\Zex r.es=true):Zg4 rs=0/\n0R rs=m:=by
 obtain⟨r0,f⟩:∃ r,rs[0]?=some r:=⟨_,Qa (by rw[h.1];exact hn)⟩
 have h0:n0R rs=m:=by
  unfold n0R;rw[f];exact(hr r0 (Qk f)).1
 refine⟨?_,h0⟩;unfold Zg4
 have h1:Zhy rs=false:=by
  unfold Zhy;rw[QG];refine⟨Gu (by have:=h.1;omega),List.any_eq_false.2 λr e=>?_⟩;have:=(hr r e).1;simp[RX.long,this];omega
 rw[Gw (by simp[h1]),Gw Gk,Gx ?_];rw[QR];intro r e;obtain⟨a1,a2⟩:=hr r e;unfold Zhf;simp[a1,a2,h0]
theorem MatB.stepN{tS tF:TypeId}{w U:World}{go g:Nat}{L:List RF}(h:MatB tS tF w go L)(hs:Zwd w U g)(h1:go≠g)(h2:∀ r ∈ L,r.g≠g):MatB tS tF U go L:=by
 obtain⟨⟨zs,k1⟩,k2,k3⟩:=h;refine⟨⟨zs,hs.2.1 _ _ _ h1 k1⟩,λr hr=>⟨?_,(k2 r hr).2⟩,k3⟩;obtain⟨es,fs,q1,q2,q3⟩:=(k2 r hr).1;exact⟨es,fs,hs.2.1 _ _ _ (h2 r hr) q1,λe he=>Fr.keep (q2 e he) hs.1,q3⟩
theorem MatB.lts{tS tF:TypeId}{w:World}{go:Nat}{L:List RF}(h:MatB tS tF w go L):go<w.heap.size/\∀ r ∈ L,r.g<w.heap.size:=by
 obtain⟨⟨zs,k1⟩,k2,k3⟩:=h;refine⟨k1.lt,λr hr=>?_⟩;obtain⟨es,fs,q1,q2,q3⟩:=(k2 r hr).1;exact q1.lt
theorem Zf4{w:World}{g:Nat}{t:TypeId}{x x0:Int}{p:Addr}{v:Value}(hb:Blk w g t #[.int .i64 x0])(h:w.cell? p=some v)(hv:v ≠ .int .i64 x0):(w.setCell ⟨g,0,none⟩ (.int .i64 x)).cell? p=some v:=by
 by_cases e:(⟨g,0,none⟩:Addr)=p
 ·subst e
  have h2:=hb.cell 0;rw[h]at h2;simp at h2;exact absurd h2 hv
 exact(World.cell?_setCell_other _ _ _ _ e).trans h
theorem FL.code{w:World}{g:Nat}{t:TypeId}{x x0:Int}{A:Option Addr}{n c:Nat}{qs:List Rat}(h:FL w A n c qs)(hb:Blk w g t #[.int .i64 x0]):FL (w.setCell ⟨g,0,none⟩ (.int .i64 x)) A n c qs:=by
 obtain⟨W,hW,-,-,f⟩:=Zao x (Qz 0 w) (Qx _) hb;obtain⟨es,h1,h2,h3,h4,h5,h6⟩:=h;refine⟨es,h1,h2,h3,λe he=>?_,h5,λhn=>?_⟩;rw[hW];exact Fr.keep (h4 e he) f.1;obtain⟨g1,o1,e1,hc⟩:=h6 hn;refine⟨g1,o1,e1,λk e he=>?_⟩;obtain⟨c1,c2,c3,c4⟩:=hc k e he;exact⟨Zf4 hb c1 Gh,Zf4 hb c2 Gh,Zf4 hb c3 Gh,Zf4 hb c4 Gh⟩
theorem MFL.code{w:World}{g:Nat}{t:TypeId}{x x0:Int}{A:Option Addr}{n c:Nat}{Q:List (List Rat)}(h:MFL w A n c Q)(hb:Blk w g t #[.int .i64 x0]):MFL (w.setCell ⟨g,0,none⟩ (.int .i64 x)) A n c Q:=by
 obtain⟨h1,h2,h3,h4⟩:=h;refine⟨h1,h2,h3,λhn=>?_⟩;obtain⟨g1,o1,e1,hc⟩:=h4 hn;refine⟨g1,o1,e1,λk q hq=>?_⟩;obtain⟨A',n',c',c1,c2⟩:=hc k q hq;exact⟨A',n',c',Zf4 hb c1 Gh,c2.code hb⟩
def OfX(rs:List RI)(ws:List Int)(X:Nat->Nat->Rat):Prop:=
 ofE rs ws=0->OfP rs ws rs.length (n0I rs) X/\Zhc (λi j=>(Zaf (Zap (n0I rs) 0 0 (Z7 (Zbe (Zc7 rs ws rs.length (n0I rs)) (n0I rs) (n0I rs) 0)) false 1).1 i j:Rat)) X (n0I rs) (n0I rs+n0I rs)
theorem sm8_nrm{rs:List RI}{rr ws:List Int}{n m:Nat}(hn:n<=200)(hE:Zd4 rs rr ws=0):∀ r ∈ Zc7 rs ws n m,∀ q ∈ r,Sm8 q:=λr hr q hq=>by
 unfold Zc7 at hr;obtain⟨i,hi,rfl⟩:=List.mem_map.1 hr;obtain⟨j,hj,rfl⟩:=List.mem_map.1 hq;have hb:=Znr hn hE i j;have e:Zew rs ws n i j=((Zc1 ws (Zcg rs i) (Zcg rs j) n:Int):Rat):=rfl;rw[e]at hb;refine⟨Qf hb.num (Zct Gj),?_⟩;rw[hb.den];exact Qp Zed (Zb6 Gj)
theorem ofS_sm:Sm Zd7:=(SmN.int (i:=3) (n:=1000000000000000000) GY).sm Gj Gj
theorem ofX_sm{rs:List RI}{ws:List Int}{n m:Nat}{X:Nat->Nat->Rat}(hm:m<=12)(h:OfP rs ws n m X){k c:Nat}(hk:k<m)(hc:c<m):Sm (X k (m+c)):=by
 obtain⟨-,D,d1,d2,d3⟩:=h;obtain⟨h1,h2⟩:=(d3 c k hc hk).small d1;exact⟨Qf h1 (Zct Gk),Qf (Qc h2 d2) (Zct Gk)⟩
theorem cOf_any(A C:Option Addr)(n c k e0:Nat)(rs:List RI)(ws:List Int)(X:Nat->Nat->Rat)(w:World)(h:MIL w A n c rs)(hw:LimI w C k e0 ws)(hX:OfX rs ws X)(hF:∀ rt,Zh5 rt=Zk9 (ofQ X (n0I rs))->FacC rt) :
    Calls Tryz.prog 10 #[.slice A n c,.slice C k e0] w (OfPost rs ws X w):=by
 have hmx:=Gt;have r6:=h.2.1;have n5:=h.2.2.1;unfold maxLen at n5;have r5:=hw.2.1;have n9:=hw.2.2.1;unfold maxLen at n9;obtain⟨W0,l6,c7,q5,s0⟩:=Zan w 26 #[.int .i64 0];obtain⟨b,hb⟩:=Gz (rs.any RI.long6);have hC:=Zb (Zvg A n c rs W0 (h.below c7) b hb);replace h:=Zb (h.below c7);replace hw:=Zb (hw.below c7);replace hX:=Zb hX;replace hF:=Zb hF;replace hb:=Zb hb;replace q5:=Zb q5;replace c7:=Zb c7;replace s0:=Zb s0
 go_enter_defers Tryz.func10,Tryz.ntmps10
 go_wp2_with fail;(try rw[l6]);clear l6;refine(hC.out).mono ?_;rintro e w1 ⟨rfl,u⟩;replace h:=Zb (h.out.below u);replace hw:=Zb (hw.out.below u);replace q5:=Gm u q5;have b8:=Gn c7 u;clear c7 u hC;cases b with
 | true =>
  have c4:=Zb (Zse (ws:=ws) hb.out);go_wp2_with fail;refine(Za5 4 w1).mono ?_;rintro e w6 ⟨rfl,rfl⟩;go_wp2_with fail;refine leaves_cons (f:=39) (args:=#[.pointer (some ⟨w.heap.size,0,none⟩)]) Gh Gd ?_;have a3:=(q5.out).cell 0;simp at a3;refine(Zbg ⟨w.heap.size,0,none⟩ 4 0 _ a3 ((q5.out).frozen 0)).mono ?_;rintro e u' w'' ⟨rfl,rfl,T⟩;obtain⟨V,hV,d4,-,-,hk,sV⟩:=Zs 117 #[.int .i64 4] (b8.out) ((b8.out).size);obtain⟨U,hU,e2,q3,-,kq,-⟩:=Zao 4 d4 (Qb _) (hk _ _ _ (q5.out));rw[hV,hU]at T;subst T;have r4:=q3.cell 0;simp at r4;exact⟨.tuple #[.slice none 0 0,.int .i64 4],by simp[results,Tryz.results10,go_sem,r4],OfPost.fall e2 c4.out Gj⟩
 | false =>
  go_wp2_with fail;refine(Zb9 4 w1).mono ?_;rintro e w6 ⟨rfl,rfl⟩;obtain⟨E,hE⟩:=Gz (Zd4 rs (Qg (min rs.length 200) 0) ws);have f5:=h.out.1;by_cases hE0:E=0
  case neg =>
   have c4:=Zb (Zwg hb.out hE hE0);have d6:Hid (Zd4 rs (Qg (min n 200) 0) ws=E):=Zb (by rw[<- f5];exact hE);have t1:(E == 0)=false:=by simpa using hE0
   have r1:decide (E=0)=false:=by simpa using hE0
   have q2:(E != 0)=true:=by rw[bne,t1];rfl
   have m5:=Zb hE0;replace hE:=Zb hE;clear hE0;go_wp2_with fail;refine(Zr8 A C n c k e0 rs ws w6 h.out hw.out E d6.out m5.out).mono ?_;rintro e w3 ⟨rfl,u⟩;replace h:=Zb (h.out.below u);replace hw:=Zb (hw.out.below u);replace q5:=Gm u q5;have o0:=Gn b8 u;clear b8 u;obtain⟨U1,s1,h7,h3,-,-,-⟩:=Zao E o0.out (Qb _) q5.out;obtain⟨y0,z0⟩:_/\_:=⟨q5.out.cell 0,q5.out.frozen 0⟩;have x0:=h3.cell 0;simp at x0 y0;go_wp2_with fail;refine(Za5 E U1).mono ?_;rintro e w7 ⟨rfl,rfl⟩;go_wp2_with fail;refine leaves_cons (f:=39) (args:=#[.pointer (some ⟨w.heap.size,0,none⟩)]) Gh Gd ?_;have a3:=(h3).cell 0;simp at a3;refine(Zbg ⟨w.heap.size,0,none⟩ E E _ a3 ((h3).frozen 0)).mono ?_;rintro e u' w'' ⟨rfl,rfl,T⟩;obtain⟨V,hV,d4,-,-,hk,sV⟩:=Zs 117 #[.int .i64 E] (h7) ((h7).size);obtain⟨U,hU,e2,q3,-,kq,-⟩:=Zao E d4 (Qb _) (hk _ _ _ (h3));rw[hV,hU]at T;subst T;have r4:=q3.cell 0;simp at r4;exact⟨.tuple #[.slice none 0 0,.int .i64 E],by simp[results,Tryz.results10,go_sem,r4],OfPost.fall e2 c4.out m5.out⟩
  subst hE0;obtain⟨p1,p2,p3,p4,p5,p6,p7⟩:=Zwl h.out hE;obtain⟨m,hm⟩:=Gz (n0I rs);have n8:k=n:=by rw[<- hw.out.1,p6]
  subst n8;have d6:Zd4 rs (Qg k 0) ws=0:=by rw[f5,Nat.min_eq_left p2]at hE;exact hE
  have hN:=Zb (λW9 (h9:MIL W9 A k c rs) (k9:LimI W9 C k e0 ws)=>Zvj A C k c e0 m rs ws W9 h9 k9 d6 hm);rw[hm]at p3 p4;have i2:=Zb (Zv2 (rs:=rs) (rr:=Qg k 0) (ws:=ws) (n:=k) (m:=m) p2 p4 d6);have l0:=Zb (sm8_nrm (rs:=rs) (ws:=ws) (rr:=Qg k 0) (n:=k) (m:=m) p2 d6);have e4:=Zb (And.intro (λhd:Zat m (Zew rs ws k)=0=>Zwo hb.out hE (by rw[hm,f5];exact hd)) (λhd:Zat m (Zew rs ws k)≠0=>Z03 hb.out hE (by rw[hm,f5];exact hd)))
  have j3:Hid (Zat m (Zew rs ws k)≠0->OfP rs ws k m X/\Zhc (λi j=>(Zaf (Zap m 0 0 (Z7 (Zbe (Zc7 rs ws k m) m m 0)) false 1).1 i j:Rat)) X m (m+m)):=Zb (λhd=>by
   have h9:=hX.out;unfold OfX at h9;rw[hm,f5]at h9;exact h9 (e4.out.2 hd))
  have e3:m<=12:=p4;have k8:0<m:=p3;replace d6:=Zb d6;replace hE:=Zb hE;replace hm:=Zb hm;clear p1 p2 p3 p4 p5 p6 p7 hX;go_wp2_with fail;refine(hN.out w6 h.out hw.out).mono ?_;rintro e w5 ⟨gn,rfl,u,h5⟩;replace h:=Zb (h.out.below u);replace hw:=Zb (hw.out.below u);replace q5:=Gm u q5;have l2:=Gn b8 u;clear b8 u h hw hN;replace h5:=Zb h5;obtain⟨U7,i8,c8,c6,j5⟩:=Zao 0 l2.out (Qb _) q5.out;have y0:=q5.out.cell 0;have z0:=q5.out.frozen 0;simp at y0;have x0:=c6.cell 0;simp at x0;have j6:=h5.out.code (x:=0) q5.out;rw[i8]at j6;obtain⟨j4,a0,a5,l4⟩:=j6.mxl l0.out
  have d3:=Zz5 a0 k8 e3 k8 e3 (λr hr=>by
   obtain⟨i9,n4,n7⟩:=Qv hr;have h9:=l4 i9 r (by rw[Qa n4,n7]);refine⟨?_,h9.2⟩;rw[h9.1];exact Zgb (by have:=a0.1;omega))
  have k7:Hid (sqE j4=0):=Zb (by unfold sqE;rw[d3.1,d3.2,a0.1];simp);replace a0:=Zb a0;replace a5:=Zb a5;replace c8:=Zb c8;replace c6:=Zb c6;clear j6 h5 l4 d3 j5;go_wp2_with fail;(try rw[i8]);clear i8 q5 l2 y0 z0;have q5:=c6;clear c6;refine(Zb9 0 U7).mono ?_;rintro e w6 ⟨rfl,rfl⟩;clear x0;obtain⟨o1,o2,o3,o4,o5,o6,o7⟩:=i2.out;have k6:(Zap m 0 0 (Z7 (Zbe (Zc7 rs ws k m) m m 0)) false 1).2.1<=m:=by rw[o4];exact o5
  have f8:Hid ((Zap m 0 0 (Z7 (Zbe (Zc7 rs ws k m) m m 0)) false 1).2.1<m->Zat m (Zew rs ws k)=0):=Zb (λh9=>o6 (by rw[<- o4];exact h9));have a9:Hid ((Zap m 0 0 (Z7 (Zbe (Zc7 rs ws k m) m m 0)) false 1).2.1=m->Zat m (Zew rs ws k)≠0):=Zb (λh9=>(o7 (by rw[<- o4];exact h9)).1);have i5:=Zb (λW9 (h9:MXL W9 (some ⟨gn,0,none⟩) m m j4)=>Zor (some ⟨gn,0,none⟩) m m j4 W9 h9 k7.out e3 (by rw[a5.out];exact o1) (by rw[a5.out];exact o3) (by rw[a5.out];exact k6) X (λh8=>by rw[a5.out]at h8 ⊢;exact(j3.out (a9.out h8)).2));clear o1 o2 o3 o4 o5 o6 o7 k6 i2 l0 k7;go_wp2_with fail;refine(i5.out w6 a0.out).mono ?_;rintro e q1 hc;clear i5
  have u:Below w6.heap.size w6 q1:=by
   rcases hc with ⟨-,-,h9⟩|⟨-,gO,L,-,h9,-⟩;exact h9;exact h9
  have j9:Hid (w.heap.size<w6.heap.size):=Zb q5.out.lt;clear a0;replace q5:=Gm u q5;have f3:=Gn c8 u;clear c8 u;rcases hc with ⟨j2,rfl,-⟩|⟨h1,gO,L,rfl,-,l7,g6,l9,m3⟩
  case inl =>
   rw[a5.out]at j2;have c4:=Zb (e4.out.1 (f8.out j2));clear j2 a5;obtain⟨o8,m6,b4,a8,n0⟩:=Zao 18 f3.out (Qb _) q5.out;have y0:=q5.out.cell 0;have z0:=q5.out.frozen 0;simp at y0;have x0:=a8.cell 0;simp at x0;replace b4:=Zb b4;replace a8:=Zb a8;go_wp2_with fail;(try rw[m6]);refine(Za5 22 o8).mono ?_;rintro e w7 ⟨rfl,rfl⟩;go_wp2_with fail;refine leaves_cons (f:=39) (args:=#[.pointer (some ⟨w.heap.size,0,none⟩)]) Gh Gd ?_;have a3:=(a8.out).cell 0;simp at a3;refine(Zbg ⟨w.heap.size,0,none⟩ 22 18 _ a3 ((a8.out).frozen 0)).mono ?_;rintro e u' w'' ⟨rfl,rfl,T⟩;obtain⟨V,hV,d4,-,-,hk,sV⟩:=Zs 117 #[.int .i64 22] (b4.out) ((b4.out).size);obtain⟨U,hU,e2,q3,-,kq,-⟩:=Zao 22 d4 (Qb _) (hk _ _ _ (a8.out));rw[hV,hU]at T;subst T;have r4:=q3.cell 0;simp at r4;exact⟨.tuple #[.slice none 0 0,.int .i64 22],by simp[results,Tryz.results10,go_sem,r4],OfPost.fall e2 c4.out Gj⟩
  rw[a5.out]at h1;have c4:=Zb (e4.out.2 (a9.out h1));have n3:=Zb (j3.out (a9.out h1)).1;clear h1 a5 f8 a9 j3 e4;have k2:Hid (w.heap.size<gO/\∀ r ∈ L,w.heap.size<r.g):=Zb ⟨Qp j9.out l9,λr hr=>Qp j9.out (m3 r hr)⟩;have m4:Hid (L.length=m):=Zb (by have h9:=congrArg List.length g6;rw[Qi]at h9;rw[h9];unfold Zjx;simp);obtain⟨n2,i1,Y,c9,e6⟩:=Zao 0 f3.out (Qb _) q5.out;have y0:=q5.out.cell 0;have z0:=q5.out.frozen 0;simp at y0;have x0:=c9.cell 0;simp at x0;have o:=Zb (l7.stepN e6 (by have:=k2.out.1;omega) (λr hr=>by have:=k2.out.2 r hr;omega));replace Y:=Zb Y;replace c9:=Zb c9;clear e6 l7 l9 m3 j9;go_wp2_with fail;(try rw[i1]);clear i1 q5 f3 y0 z0;have q5:=c9;clear c9;refine(Zb9 22 n2).mono ?_;rintro e w6 ⟨rfl,rfl⟩;clear x0;go_wp2_with fail;refine(Zux 1000000000000000000 w6 Gj Gj).mono ?_;rintro e k4 ⟨g7,sn,sA,sk,sc,sm,sB,sj,sd,rfl,sf⟩;replace q5:=Gm g7 q5;replace o:=Zb (o.out.below g7);have g4:=Gn Y g7;clear Y g7;replace sf:=Zb sf;have i3:=Zb o.out.lts;obtain⟨f6,b5⟩:=Gz k4.heap.size;obtain⟨p9,h6,g1,b6⟩:=Zak (w:=k4) 73 #[.bool sn,.slice sA sk sc,.bool sm,.slice sB sj sd];rw[b5]at g1;replace q5:=Gm b6 q5;replace o:=Zb (o.out.below b6);replace sf:=Zb (sf.out.below b6);have i6:=Gn g4 b6;clear g4 b6;replace g1:=Zb g1;have n1:Hid (∀ r ∈ L,r.g<f6):=Zb (λr hr=>by have h9:=i3.out.2 r hr;have h8:=b5;omega);go_wp2_with fail;(try rw[b5]);(try rw[h6]);clear h6;replace b5:=Zb b5;replace sf:Hid (Fr p9 sn sA sk sc sm sB sj sd Zd7):=Zb sf.out
  have j7:Hid (∀ (j:Nat) (r:RF),L[j]?=some r->r.q.length=m):=Zb (λj r hr=>by
   have h9:(L.map RF.q)[j]?=some r.q:=by rw[Qd,hr];rfl
   rw[g6]at h9;unfold Zjx at h9;rw[Qd]at h9;obtain⟨x9,-,e9⟩:=Option.map_eq_some_iff.1 h9;rw[<- e9];simp)
  have d8:Hid (∀ j c,j<m->c<m->Zh (L.map RF.q) j c=X j (m+c)):=Zb (λj c hj hc=>by
   rw[g6];unfold Zjx Zh;rw[Qd,Qu hj,Qo,Qj,Qd,Qu Gk];rfl)
  replace g6:=Zb g6;clear i3
  go_loopg [38] m (λt iv wr=>∃ (i:Nat) (L2:List RF),i+t=m/\iv=.int .i64 i/\Hid (MatB 35 41 wr gO L2)/\Hid (ScT L L2 m i 0 Zd7)/\Hid (Blk wr f6 73 #[.bool sn,.slice sA sk sc,.bool sm,.slice sB sj sd])/\Hid (Fr wr sn sA sk sc sm sB sj sd Zd7)/\Hid (Blk wr w.heap.size 26 #[.int .i64 0])/\Hid (Below w.heap.size w wr))
  case atStart=>exact⟨0,L,by omega,rfl,o,Zb (ScT.start m4.out j7.out),g1,sf,q5,i6⟩
  case round =>
   clear o g1 sf q5 i6;obtain⟨wi,rfl⟩:=Gy wr;obtain⟨i,L2,r2,rfl,o,y,qs,sf,q5,a4⟩:=hrel;cases gk with
   | zero =>
    obtain rfl:i=m:=Gk;have t1:decide ((i:Int)<(i:Int))=false:=Gh
    have o9:Hid (L2.map RF.q=ofQ X i):=Zb (by
     rw[y.out.done];unfold ofQ;refine Qh λj hj=>Qh λc hc=>?_;rw[d8.out j c (List.mem_range.1 hj) (List.mem_range.1 hc)])
    have d7:=o.out.mfl y.out.1 (Qb i) (by unfold maxLen;omega);rw[o9.out]at d7;obtain⟨rt,a0,-,e8⟩:=d7.mxs;have m0:=hF.out rt (by rw[hm.out];exact e8);replace d7:=Zb d7;replace a0:=Zb a0;have l1:=Zb (Zx5 (some ⟨gO,0,none⟩) i i rt wi a0.out m0);clear m0 hF o qs sf;go_wp2_with fail;refine l1.out.mono ?_;rintro e w9 ⟨u,k0⟩;replace d7:=Zb (d7.out.below u);replace q5:=Gm u q5;have d9:=Gn a4 u;clear a4 u l1;rcases k0 with ⟨d0,rfl⟩|⟨d0,rfl⟩
    case inr =>
     replace d0:=Zb d0;go_wp2_with fail;refine leaves_cons (f:=39) (args:=#[.pointer (some ⟨w.heap.size,0,none⟩)]) Gh Gd ?_;have a3:=(q5.out).cell 0;simp at a3;refine(Zbg ⟨w.heap.size,0,none⟩ 16 0 _ a3 ((q5.out).frozen 0)).mono ?_;rintro e u' w'' ⟨rfl,rfl,T⟩;obtain⟨V,hV,d4,-,-,hk,sV⟩:=Zs 117 #[.int .i64 16] (d9.out) ((d9.out).size);obtain⟨U,hU,e2,q3,-,kq,-⟩:=Zao 16 d4 (Qb _) (hk _ _ _ (q5.out));rw[hV,hU]at T;subst T;have r4:=q3.cell 0;simp at r4;exact⟨.tuple #[.slice none 0 0,.int .i64 16],by simp[results,Tryz.results10,go_sem,r4],⟨e2,.inl ⟨c4.out,rt,by rw[hm.out];exact e8,.inr ⟨d0.out,rfl⟩⟩⟩⟩
    obtain⟨q4,e7,g9,f4,h2⟩:=Zao 0 d9.out (Qb _) q5.out;have y0:=q5.out.cell 0;have z0:=q5.out.frozen 0;simp at y0;have x0:=f4.cell 0;simp at x0;have i4:=Zb (d7.out.code (x:=0) q5.out);rw[e7]at i4;replace d0:=Zb d0;have r4:=f4.cell 0;simp at r4;clear h2;go_wp2_with fail;(try rw[e7]);refine leaves_cons (f:=39) (args:=#[.pointer (some ⟨w.heap.size,0,none⟩)]) Gh Gd ?_;refine(Zet _ _).mono ?_;rintro e u' w'' ⟨rfl,rfl,rfl⟩;exact⟨.tuple #[.slice (some ⟨gO,0,none⟩) i i,.int .i64 0],by simp[results,Tryz.results10,go_sem,r4],g9,.inl ⟨c4.out,rt,by rw[hm.out];exact e8,.inl ⟨d0.out,_,_,by rw[hm.out],by rw[hm.out];exact i4.out⟩⟩⟩
   | succ t' =>
    obtain rfl:t'=m-(i+1):=Gk;have b3:i<m:=Gk;have t1:decide ((i:Int)<(m:Int))=true:=Gv Gk;have r9:decide (i<m)=true:=Gv b3;have bi:(i:Int)<(m:Int):=Gk;have q8:IntKind.i64.wrap ((i:Int)+1)=(i:Int)+1:=IntWalk.i64_in _ Gk;obtain⟨ri,f7⟩:=Zb0 (L:=L2) (i:=i) (by rw[y.out.1];exact b3);obtain⟨r0,h4⟩:=Zb0 (L:=L) (i:=i) (by rw[m4.out];exact b3);obtain⟨ci,zi⟩:=o.out.cell f7;rw[y.out.2.2.1 i ri f7]at ci;have kc:=(o.out.row f7).2;rw[y.out.2.2.1 i ri f7]at kc;have q7:=kc.1;have n6:=kc.2;unfold maxLen at n6;have m1:Hid (ri.g=r0.g):=Zb (Z1b y.out.2.1 f7 h4);have j1:Hid (w.heap.size<ri.g/\ri.g<f6):=Zb (by rw[m1.out];exact⟨k2.out.2 r0 (Qk h4),n1.out r0 (Qk h4)⟩);clear kc;go_wp2_with fail;clear ci zi
    go_loopg [44] m (λt kv wr=>∃ (k9:Nat) (L3:List RF),k9+t=m/\kv=.int .i64 k9/\Hid (MatB 35 41 wr gO L3)/\Hid (ScT L L3 m i k9 Zd7)/\Hid (Blk wr f6 73 #[.bool sn,.slice sA sk sc,.bool sm,.slice sB sj sd])/\Hid (Fr wr sn sA sk sc sm sB sj sd Zd7)/\Hid (Blk wr w.heap.size 26 #[.int .i64 0])/\Hid (Below w.heap.size w wr))
    case atStart=>exact⟨0,L2,by omega,rfl,o,y,qs,sf,q5,a4⟩
    case round =>
     clear o y qs sf q5 a4;obtain⟨wk,rfl⟩:=Gy wr;obtain⟨k9,L3,s2,rfl,o,y,qs,sf,q5,a4⟩:=hrel;cases gk with
     | zero =>
      obtain rfl:k9=m:=Gk;have t2:decide ((k9:Int)<(k9:Int))=false:=Gh;have p8:=Zb y.out.next;clear y;go_wp2_with fail
      go_roundg (k9-(i+1))
      case measure=>omega
      case rel=>exact⟨i+1,L3,by omega,by go_num,o,p8,qs,sf,q5,a4⟩
     | succ t'' =>
      obtain rfl:t''=m-(k9+1):=Gk;have b0:k9<m:=Gk;have t2:decide ((k9:Int)<(m:Int))=true:=Gv Gk;have r7:decide (k9<m)=true:=Gv b0;have bk:(k9:Int)<(m:Int):=Gk;have r8:IntKind.i64.wrap ((k9:Int)+1)=(k9:Int)+1:=IntWalk.i64_in _ Gk;obtain⟨r3,b9⟩:=Zb0 (L:=L3) (i:=i) (by rw[y.out.1];exact b3);have b7:r3.g=ri.g:=(Z1b y.out.2.1 b9 h4).trans m1.out.symm;have f0:=y.out.2.2.1 i r3 b9;obtain⟨fn,fA,fk,fc,fm,fB,fj,fd,p0,p1,p2,p3,a2⟩:=(o.out.row b9).1.at_ (i:=k9) (by rw[f0];exact b0);rw[b7]at p0 p1 p2 p3
      have g0:r3.q[k9]?.getD 0=X i (m+k9):=by
       have h9:=y.out.2.2.2 i k9 b3 b0;rw[Gw Gk,Zkn,Zgl b9]at h9;rw[h9];exact d8.out i k9 b3 b0
      rw[g0]at a2;have q0:Hid (Sm (X i (m+k9))):=Zb (ofX_sm e3 n3.out b3 b0);replace a2:=Zb a2;replace g0:=Zb g0;replace b7:=Zb b7;replace f0:=Zb f0;obtain⟨q6,b1⟩:=Gz wk.heap.size;obtain⟨i0,g2,O,J⟩:=Zak (w:=wk) 41 #[.bool fn,.slice fA fk fc,.bool fm,.slice fB fj fd];rw[b1]at O;replace o:=Zb (o.out.below J);replace qs:=Gm J qs;replace sf:=Zb (sf.out.below J);replace q5:=Gm J q5;replace a2:=Zb (a2.out.below J);have e1:=Gn a4 J;clear a4 J;replace O:=Zb O;obtain⟨x0,x1,x2,x3,-⟩:=O.out.four;obtain⟨υ0,υ1,υ2,υ3,-⟩:=qs.out.four;obtain⟨l3,b2⟩:=Gz i0.heap.size;obtain⟨m8,g5,a1,I⟩:=Zak (w:=i0) 73 #[.bool sn,.slice sA sk sc,.bool sm,.slice sB sj sd];rw[b2]at a1;replace o:=Zb (o.out.below I);replace qs:=Gm I qs;replace sf:=Zb (sf.out.below I);replace q5:=Gm I q5;replace a2:=Zb (a2.out.below I);replace O:=Gm I O;have d5:=Gn e1 I;clear e1 I;replace a1:=Zb a1;go_wp2_with fail;(try rw[b1]);(try rw[g2]);(try rw[b2]);(try rw[g5]);clear g2;replace b1:=Zb b1;clear g5;replace b2:=Zb b2;clear p0 p1 p2 p3 x0 x1 x2 x3 υ0 υ1 υ2 υ3;have g8:=Zb (FL.sing1 a1.out sf.out);refine(Zcf fn fA fk fc fm fB fj fd _ (some ⟨l3,0,none⟩) 1 1 [Zd7] m8 a2.out g8.out Gj (Zdm q0.out) (Zem ofS_sm)).mono ?_;rintro e c5 ⟨a6,pn,pA,pk,pc,pm,pB,pj,pd,rfl,pf⟩;replace o:=Zb (o.out.below a6);replace qs:=Gm a6 qs;replace sf:=Zb (sf.out.below a6);replace q5:=Gm a6 q5;replace a2:=Zb (a2.out.below a6);replace O:=Gm a6 O;replace a1:=Gm a6 a1;replace g8:=Zb (g8.out.below a6);have e5:=Gn d5 a6;clear d5 a6;rw[Zfx]at pf;clear g8 a1 O a2
      obtain⟨l5,m2,m7,k5⟩:(c5.cell? ⟨ri.g,k9*4,none⟩).isSome/\(c5.cell? ⟨ri.g,k9*4+1,none⟩).isSome/\(c5.cell? ⟨ri.g,k9*4+2,none⟩).isSome/\(c5.cell? ⟨ri.g,k9*4+3,none⟩).isSome:=by
       obtain⟨_,_,_,_,_,_,_,_,c0,c1,c2,c3,-⟩:=(o.out.row b9).1.at_ (i:=k9) (by rw[f0.out];exact b0);rw[b7.out]at c0 c1 c2 c3;rw[c0,c1,c2,c3];exact⟨rfl,rfl,rfl,rfl⟩
      obtain⟨v0,c0⟩:=Option.isSome_iff_exists.1 l5;obtain⟨v1,c1⟩:=Option.isSome_iff_exists.1 m2;obtain⟨v2,c2⟩:=Option.isSome_iff_exists.1 m7;obtain⟨v3,c3⟩:=Option.isSome_iff_exists.1 k5;have a7:=(o.out.row b9).1;have z0:=a7.frozen (k9*4);have z1:=a7.frozen (k9*4+1);have z2:=a7.frozen (k9*4+2);have z3:=a7.frozen (k9*4+3);rw[b7.out]at z0 z1 z2 z3;obtain⟨bt,bcs,k3,l8⟩:=a7.box;have h0:=o.out.set_ b9 (k:=k9) (by rw[f0.out];exact b0) pf;obtain⟨U,hU⟩:=Gz (Zgf c5 ri.g k9 pn pA pk pc pm pB pj pd);rw[b7.out]at h0 k3;rw[<- b7.out]at h0
      have f9:MatB 35 41 U gO (L3.set i ⟨r3.g,r3.c,r3.q.set k9 (X i (m+k9)*Zd7)⟩):=by
       rw[<- hU,<- b7.out];exact h0
      have m9:=Zb (y.out.step b9 b3 b0 (x:=X i (m+k9)*Zd7) (by rw[d8.out i k9 b3 b0]));have j0:Blk U f6 73 #[.bool sn,.slice sA sk sc,.bool sm,.slice sB sj sd]:=by rw[<- hU];exact Zj8 qs.out (by have:=j1.out;omega)
      have i7:Blk U w.heap.size 26 #[.int .i64 0]:=by rw[<- hU];exact Zj8 q5.out (by have:=j1.out;omega)
      have k1:Fr U sn sA sk sc sm sB sj sd Zd7:=by rw[<- hU];exact Zil sf.out k3 l8
      have j8:Below w.heap.size w U:=by rw[<- hU];exact Zjh e5.out (by have:=j1.out;omega)
      unfold Zgf at hU;replace f9:=Zb f9;replace j0:=Zb j0;replace i7:=Zb i7;replace k1:=Zb k1;replace j8:=Zb j8;clear o y qs q5 sf a7 k3 l8 h0 l5 m2 m7 k5 e5 pf;have q9:=Zuu pn pA pk pc pm pB pj pd;go_wp2_with fail;(try rw[hU])
      go_roundg (m-(k9+1))
      case measure=>omega
      case rel=>exact⟨k9+1,_,by omega,by go_num,f9,m9,j0,k1,i7,j8⟩
