/- The reference's GreatSystem. Numbers with a common -/
import Derived.Test.YthappeninglakaaGreatZi20
set_option maxRecDepth 100000
set_option maxHeartbeats 8000000
set_option linter.unusedSimpArgs false
set_option linter.unusedVariables false
namespace Go.Proofs.YthappeninglakaaGreat
open Go.RowKit
open List renaming getElem?_eq_getElem→Qa,replicate→Qd,getElem?_map→Qe,getElem?_eq_none→Qf,mem_of_getElem?→Qi,getElem?_range→Qk,map_congr_left→Ql,length_map→Qm,getElem_mem→Qq,eq_nil_of_length_eq_zero→Qs,range→Qu,length_append→Qz,any_eq_false→QB,getElem?_set→QC,length→QE,ext_getElem→QF,all_eq_true→QG,length_set→QJ
open Nat renaming le_trans→Qb,le_refl→Qc,mul_le_mul→Qg,lt_of_le_of_lt→Qh,lt_of_lt_of_le→Qo,lt_or_ge→Qp,eq_zero_or_pos→Qy,mul_one→QD
open Option renaming getD_some→Qj,map_some→Qn
open Bool renaming or_eq_false_iff→Qr
open Rat renaming intCast_natCast→Qt,mul_nonneg→Qv,mul_assoc→Qx,mul_comm→QA,intCast_neg→QH
open Act renaming put→Qw
open Below renaming refl→QI
attribute [local go_sem] Zg
def ModI(rs:List RI)(n m k:Nat):Prop:=(∀ (j:Nat) (r:RI),j<n->j<210->rs[j]?=some r->(r.n<=4 \/ 12<r.n)/\r.n<=15)/\(n<=12 \/ 200<n)/\n<=210/\m<=300/\k<=300
def CD(D M:Nat)(q:Rat):Prop:=∃ z:Int,q=(z:Rat)/(D:Rat)/\z.natAbs<=M
section
variable{D M N:Nat}{p q:Rat}
theorem CD.mono(h:CD D M q)(hM:M<=N):CD D N q:=by
 obtain⟨z,e,hz⟩:=h;exact⟨z,e,Qb hz hM⟩
end
section
variable(rs:List RI)(rr ws:List Int)(x:Nat->Rat)
end
section
variable{rs:List RI}{rr ws:List Int}{x:Nat->Rat}{n m:Nat}
end
def B40(z:Int):Prop:=z.natAbs<=1099511627776
section
variable{D M N:Nat}{q:Rat}
theorem CD.small(h:CD D M q)(hD:0<D):q.num.natAbs<=M/\q.den<=D:=by
 obtain⟨z,e,hz⟩:=h
 have f:((D:Int):Rat)≠0:=by
  intro h0;have:=Rat.intCast_inj.1 (show ((D:Int):Rat)=((0:Int):Rat) by simpa using h0);omega
 have e2:((D:Int):Rat)*q=(z:Rat):=by
  have h2:((D:Int):Rat)=(D:Rat):=Qt D;rw[h2]at f ⊢;rw[e]
  grind
 exact Ze2 ⟨z,e2,hz⟩ ⟨(D:Int),rfl,by simp⟩ f
end
theorem Zxt{ws:List Int}{a b:Nat->Int}:∀ (n:Nat),(∀ r,r<n->B40 (Zjy ws r)/\B40 (a r)/\B40 (b r))->(Zc0 ws a b n).natAbs<=n*(1099511627776*(1099511627776*1099511627776))
 | 0,_=>by simp[Zc0]
 | n+1,h=>by
  have ih:=Zxt n (λr hr=>h r Gk);obtain⟨h1,h2,h3⟩:=h n Gk
  have h4:((Zjy ws n)*(a n*b n)).natAbs<=1099511627776*(1099511627776*1099511627776):=by
   rw[Int.natAbs_mul,Int.natAbs_mul];exact Qg h1 (Qg h2 h3)
  have h5:Zc0 ws a b (n+1)=Zc0 ws a b n+Zjy ws n*(a n*b n):=rfl;rw[h5,Nat.succ_mul];exact Qb (Int.natAbs_add_le _ _) (Nat.add_le_add ih h4)
theorem Zz5:200*(1099511627776*(1099511627776*1099511627776))<=pw 4:=by decide +kernel
theorem Z17{ws:List Int}{a b:Nat->Int}{n:Nat}(hn:n<=200)(h:∀ r,r<n->B40 (Zjy ws r)/\B40 (a r)/\B40 (b r)):(Zc0 ws a b n).natAbs<=pw 4:=
 Qb (Zxt n h) (Qb (Qg hn (Qc _)) Zz5)
theorem Z08{a b i j:Nat}(ha:a<=pw i)(hb:b<=pw j):a*b<=pw (i+j):=by rw[Zb8];exact Qg ha hb
theorem k_pw{n:Nat}(h:n<=4294967296):n<=pw 1:=by
 have:pw 1=4294967296:=GY;rw[this];exact h
theorem Zsp{t:TypeId}{w:World}{g:Nat}{a0:Bool}{A0:Option Addr}{n0 c0:Nat}{b0:Bool}{B0:Option Addr}{m0 d0:Nat}(na:Bool)(A:Option Addr)(n c:Nat)(nb:Bool)(B:Option Addr)(m d:Nat)(hb:Blk w g t #[.bool a0,.slice A0 n0 c0,.bool b0,.slice B0 m0 d0]) :
    ∃ W,(((w.setCell ⟨g,0,none⟩ (.bool na)).setCell ⟨g,1,none⟩ (.slice A n c)).setCell ⟨g,2,none⟩ (.bool nb)).setCell ⟨g,3,none⟩ (.slice B m d)=W/\Blk W g t #[.bool na,.slice A n c,.bool nb,.slice B m d]/\Kept (λk=>k=g) w W/\W.heap.size=w.heap.size:=by
 exact Em
def VarF(w:World)(g:Nat)(q:Rat):Prop:=∃ na A n c nb B m d,Blk w g 41 #[.bool na,.slice A n c,.bool nb,.slice B m d]/\Fr w na A n c nb B m d q
theorem VarF.kept{w w':World}{g:Nat}{q:Rat}{G:Nat->Prop}(h:VarF w g q)(hk:Kept G w w')(hg:¬ G g)(hG:∀ k,G k->∃ t cs,Blk w k t cs/\NoLimb cs):VarF w' g q:=by
 obtain⟨na,A,n,c,nb,B,m,d,h1,h2⟩:=h;exact⟨na,A,n,c,nb,B,m,d,hk.blk h1 hg,hk.wd h2.1 hG,hk.wd h2.2 hG⟩
theorem Fr.keptV{w w':World}{na:Bool}{A:Option Addr}{n c:Nat}{nb:Bool}{B:Option Addr}{m d:Nat}{r:Rat}{g:Nat}{t:TypeId}{cs:Array Value}(h:Fr w na A n c nb B m d r)(hk:Kept (λk=>k=g) w w')(hb:Blk w g t cs)(hn:NoLimb cs):Fr w' na A n c nb B m d r:=
 ⟨hk.wd h.1 (λk e=>by cases e;exact⟨_,_,hb,hn⟩),hk.wd h.2 (λk e=>by cases e;exact⟨_,_,hb,hn⟩)⟩
theorem Zk8(z:Int):Rat.divInt z 1=(z:Rat):=Zkx z
theorem Z3b{rs:List RI}{ws:List Int}{n m i:Nat}(h:i<m):(Zc7 rs ws n m)[i]?.getD []=Zry rs ws n m i:=by
 unfold Zc7 Zry;rw[Qe,Qk h];rfl
theorem b40_out{least x:Int}(h:Zqy least x=false)(h0:-1099511627776<=least):B40 x:=by
 unfold Zqy at h;simp only[Qr,decide_eq_false_iff_not]at h;unfold B40;omega
theorem Zm0{least:Int}{l:List Int}(h:Ziy least l=false)(h0:-1099511627776<=least)(i:Nat):B40 (l[i]?.getD 0):=by
 unfold Ziy at h;rw[QB]at h;by_cases hi:i<l.length
 ·rw[Qa hi]
  exact b40_out (by simpa using h _ (Qq hi)) h0
 rw[Qf Gk];show (0:Int).natAbs<=_;decide
theorem sys_b40{rs:List RI}{rr ws:List Int}(h:Zd5 rs rr ws=0):(∀ r k,B40 (Zcg rs k r))/\(∀ r,B40 (Zjy rr r))/\∀ r,B40 (Zjy ws r):=by
 obtain⟨f1,f2,f3,f4,f5,f6,f7,f8⟩:=Zi6 h;refine⟨λr k=>?_,λr=>Zm0 f7 Gj r,λr=>Zm0 f6 Gj r⟩;unfold Zcg;by_cases hr:r<rs.length
 ·rw[Qa hr]
  exact Zm0 (f8 _ (Qq hr)).2 Gj k
 rw[Qf (l:=rs) (i:=r) Gk];show (0:Int).natAbs<=_;decide
def Zex(rs:List RI)(ws:List Int)(n:Nat):Nat->Nat->Rat:=λi j=>((Zc0 ws (Zcg rs i) (Zcg rs j) n:Int):Rat)
section
variable{rs:List RI}{rr ws:List Int}{n m:Nat}
theorem BndQ.den{B:Nat}{q:Rat}(h:BndQ B q):q.den=1:=by
 obtain⟨z,rfl,-⟩:=h;exact Rat.den_intCast z
theorem BndQ.num{B:Nat}{q:Rat}(h:BndQ B q):q.num.natAbs<=B:=by
 obtain⟨z,rfl,hz⟩:=h;rw[Rat.num_intCast];exact hz
end
theorem Zq9{B:Nat}{R:List (List Rat)}(h:∀ i j,BndQ B (Zh R i j))(i k:Nat):denTo (R[i]?.getD []) k=1:=by
 have h1:=Zsg (R[i]?.getD []) (D:=1) (λj=>by
  have:=(h i j).den;unfold Zh at this;rw[this];exact Qc _) k
 have h2:=Zds (R[i]?.getD []) k;rw[Nat.one_pow]at h1;omega
theorem Z0b{B:Nat}{R:List (List Rat)}(h:∀ i j,BndQ B (Zh R i j))(i j:Nat):(Zah (Z6 R) i j).natAbs<=B:=by
 have h1:=Zgz R i j;obtain⟨z,hz,hb⟩:=h i j;have hd:denAt R i=1:=Zq9 h i _;rw[hd,hz]at h1
 have h2:((Zah (Z6 R) i j:Int):Rat)=(z:Rat):=by
  rw[h1];have:((1:Nat):Rat)=1:=rfl;rw[this];grind
 rw[Rat.intCast_inj.1 h2];exact hb
theorem Zrl{b n m:Nat}{R:List (List Rat)}(h:∀ i j,BndQ (pw b) (Zh R i j))(hl:R.length=n)(hn:n<=900)(hrow:∀ i,i<n->(R[i]?.getD []).length=m)(hnm:n<=m)(h1:(b+1)*n<189)(hb:b<900) :
    okZ (pw 200) m n 0 0 (Z6 R) 1/\okR (pw 200) (pw 200) m n 0 0 R/\Zs0 R n m/\(Zar n 0 0 (Z6 R) false 1).2.1=(Zbh n 0 0 R false).2.1/\(Zbh n 0 0 R false).2.1<=n /\
    ((Zbh n 0 0 R false).2.1<n->Zay n (Zh R)=0) /\
    ((Zbh n 0 0 R false).2.1=n->Zay n (Zh R)≠0/\∃ X:Nat->Nat->Rat,Zhg (Zh (Zbh n 0 0 R false).1) X n m/\Zhg (λi j=>(Zah (Zar n 0 0 (Z6 R) false 1).1 i j:Rat)) X n m/\SolQ (Zh R) X n m):=by
 have e:=Zkk (b:=b) n hn;obtain⟨B,hB⟩:=Gz (Zbo (pw b) n);rw[hB]at e;obtain⟨d,hd⟩:=Gz ((b+1)*n);rw[hd]at e h1;have bb:B*B<=pw (d+d):=Z08 e e
 have g1:(n+1)*(B*B)<pw 400:=by
  have h6:(n+1)*(B*B)<=pw (1+(d+d)):=Z08 (k_pw Gk) bb;exact Qh h6 (Zci Gk)
 have g2:B*B*1<pw 400:=by rw[QD];exact Qh bb (Zci Gk)
 have g3:B*1<pw 300:=by rw[QD];exact Qh e (Zci Gk)
 have hs:=Zwu (B:=pw b) (S:=1) (Zbt _) (Qc _) R hl hrow (λi hi=>Nat.le_of_eq (Zq9 h i _)) (λi j _=>Z0b h i j) hnm (by rw[hB];exact g1) (by rw[hB];exact g2) (by rw[hB];exact g3);rw[hB,QD]at hs;obtain⟨o1,o2,o3,o4,o5,o6⟩:=hs;have p1:B+1<=pw 200:=Qb (Nat.add_le_add e (Zbt d)) (Qb (Zq2 d) (Zb1 Gk));have p2:B<pw 200:=p1;refine⟨Zoj p2 _ _ _ _ _ o1,Znf p2 p2 _ _ _ _ o2,⟨λi t hi ht=>?_,λi j=>?_⟩,o3,o4,o5,λhr=>?_⟩;rw[Zq9 h];exact Qo Zeh (Zb1 Gj);exact Qh (h i j).num (Zci Gk);obtain⟨q1,X,q2,q3,q4,-⟩:=o6 hr;exact⟨q1,X,q2,q3,q4⟩
section
variable{rs:List RI}{rr ws:List Int}{n m:Nat}
end
theorem Zxn{w:World}{A:Option Addr}{n c:Nat}{rs:List RI}{rr ws:List Int}(h:MIL w A n c rs)(hE:Zd5 rs rr ws=0):0<n/\n<=200/\0<n0I rs/\n0I rs<=12/\rr.length=n/\ws.length=n/\∀ r ∈ rs,r.n=n0I rs:=by
 obtain⟨f1,f2,f3,f4,f5,f6,f7,f8⟩:=Zi6 hE;have hl:=h.1
 have f:0<n:=by
  rcases Qy n with h0|h0
  ·exfalso
   have:rs=[]:=Qs Gk;subst this;exact f3 rfl
  exact h0
 have e:n0I rs<=12:=by
  obtain⟨_,_,r0,_,o,_⟩:=h.at_ (i:=0) f;have h1:=Qi o;rw[<- (f8 r0 h1).1];exact f2 r0 h1
 exact⟨f,by omega,by omega,e,by omega,by omega,λr hr=>(f8 r hr).1⟩
section
variable{rs:List RI}{ws:List Int}{n:Nat}
end
section
variable{rs:List RI}{rr ws:List Int}{n m:Nat}
end
def bf(N:Nat->Nat->Rat)(m:Nat)(y z:Nat->Rat):Rat:=Z0 m (λi=>y i*Z0 m (λj=>N i j*z j))
section
variable{N:Nat->Nat->Rat}{m:Nat}
end
section
variable{rs:List RI}{ws:List Int}{n m:Nat}
end
section
variable{m q p s:Rat}
end
section
variable{A:Nat->Nat->Rat}{n:Nat}
theorem Z1z(hA:∀ i k,i<n->k<n->A i k=A k i)(hp:posP A n)(hU:∀ i j,i<n->j<i->Zr A i i j=0)(x:Nat->Rat) :
    Z0 n (λi=>Z0 n (λk=>A i k*(x i*x k)))=Z0 n (λs=>dQ A s*(Z0 n (λi=>tL A i s*x i)*Z0 n (λi=>tL A i s*x i))):=by
 have h1:∀ i k,i<n->k<n->A i k=Z0 n (λs=>tL A i s*dQ A s*tL A k s):=λi k hi hk=>by
  rw[col_tL (A:=A) (c:=k) hi];exact Zw λs hs=>by rw[Z2a hA hp hU hs hk];grind
 rw[Zw (g:=λi=>Z0 n (λs=>tL A i s*x i*(dQ A s*Z0 n (λk=>tL A k s*x k)))) (λi hi=>by
  rw[Zw (g:=λk=>Z0 n (λs=>tL A i s*x i*dQ A s*(tL A k s*x k))) (λk hk=>by
   rw[h1 i k hi hk,<- Zkw];exact Zw λs _=>by grind),Zpo]
  refine Zw λs _=>?_;rw[Zw (g:=λk=>tL A k s*x k*(tL A i s*x i*dQ A s)) (λk _=>by grind),Zkw]
  grind),Zpo]
 refine Zw λs _=>?_;rw[Zkw]
 grind
theorem Zt1(hA:∀ i k,i<n->k<n->A i k=A k i)(hp:posP A n)(hU:∀ i j,i<n->j<i->Zr A i i j=0)(x:Nat->Rat):0<=Z0 n (λi=>Z0 n (λk=>A i k*(x i*x k))):=by
 rw[Z1z hA hp hU];refine Zs5 λs hs=>Qv (Rat.le_of_lt (hp s hs)) ?_;rcases Rat.le_total (a:=0) (b:=Z0 n (λi=>tL A i s*x i))with h|h;exact Qv h h;have h3:0 <= - Z0 n (λi=>tL A i s*x i):=by grind
 have:=Qv h3 h3
 grind
end
theorem fr_zero{w:World}{na:Bool}{A:Option Addr}{n c:Nat}{nb:Bool}{B:Option Addr}{m d:Nat}{q:Rat}(h:Fr w na A n c nb B m d q):n=0 ↔ q=0:=by
 have h1:=h.1.lim.len;have h2:=length_digits_pos (v:=q.num.natAbs);constructor
 ·intro e
  have h3:q.num=0:=Gk;exact Rat.num_eq_zero.1 h3
 intro e;have h3:q.num=0:=Rat.num_eq_zero.2 e;omega
section
variable{w:World}{A:Option Addr}{n c:Nat}{rs:List RX}
theorem cov_tri(h:MXL w A n c rs)(hf:Zlh 4 rs)(h0:Zat rs=0):(∀ i k,i<n->k<n->Zh (qM rs) i k=Zh (qM rs) k i)/\posP (Zh (qM rs)) n/\(∀ i j,i<n->j<i->Zr (Zh (qM rs)) i i j=0):=by
 obtain⟨f,u,e⟩:=Zew h0;have o:rs.length=n:=h.1;have hl:(qM rs).length=n:=Zn8 h;rw[o]at e;exact⟨λi k hi hk=>symB_iff.1 u i k Gk Gk,e,λi j hi hj=>red_low (f.small h hf) hl (λi hi=>f.row h i hi) (Qc _) e hi hj⟩
end
theorem inv_CD{B n:Nat}{Q X:Nat->Nat->Rat}(hQ:∀ a b,a<n->b<n->BndQ B (Q a b))(hB:1<=B)(hE:∀ c i,c<n->i<n->Z0 n (λj=>Q i j*X j c)=if i=c then 1 else 0)(h0:Zay n Q≠0) :
    ∃ D,0<D/\D<=Zbo B n/\∀ c k,c<n->k<n->CD D (Zbo B n) (X k c):=by
 obtain⟨d,hd,y⟩:=Zhv hQ;have u:d≠0:=λe=>h0 (by rw[hd,e];rfl);refine⟨d.natAbs,by omega,y,λc k hc hk=>?_⟩;have f:=Z2g Q (λj=>X j c) (λi=>if i=c then 1 else 0) (λi hi=>hE c i hc hi) hk
 obtain⟨z,hz,o⟩:=Zhv (B:=B) (n:=n) (M:=λa b=>if b=k then (if a=c then 1 else 0)else Q a b) (λa b ha hb=>by
  show BndQ B (if b=k then (if a=c then 1 else 0)else Q a b);by_cases h:b=k
  ·rw[Gx h]
   by_cases h2:a=c;rw[Gx h2];exact⟨1,rfl,by simpa using hB⟩;rw[Gw h2];exact⟨0,rfl,by simp⟩
  rw[Gw h];exact hQ a b ha hb)
 rw[hz,hd]at f;have C:(d:Rat)≠0:=λe=>u (by exact_mod_cast e);rcases Int.natAbs_eq d with h|h
 ·refine⟨z,?_,o⟩
  have h1:((d.natAbs:Nat):Rat)=(d:Rat):=by rw[<- Qt,<- h]
  rw[h1,<- f]
  grind
 refine⟨-z,?_,by rw[Int.natAbs_neg];exact o⟩
 have h1:((d.natAbs:Nat):Rat)=-(d:Rat):=by
  rw[<- Qt,show ((d.natAbs:Nat):Int)=-d by omega,QH]
 rw[h1,QH,<- f]
 grind
def Zea:Rat:=((1000000000000000000:Int):Rat)
def ofQ(X:Nat->Nat->Rat)(m:Nat):List (List Rat):=(Qu m).map λi=>(Qu m).map λc=>X i (m+c)*Zea
section
variable{rs:List RI}{rr ws:List Int}{n m:Nat}
theorem Zgd{i:Nat}(hi:i<m):((Zc7 rs ws n m)[i]?.getD []).length=m:=by rw[Z3b hi,Zu2]
theorem Zll{i j:Nat}(hi:i<m)(hj:j<m):Zh (Zc7 rs ws n m) i j=Zex rs ws n i j:=by
 unfold Zh Zc7;exact Fe
theorem Znv(hn:n<=200)(hE:Zd5 rs rr ws=0)(i j:Nat):BndQ (pw 4) (Zex rs ws n i j):=by
 obtain⟨b1,b2,b3⟩:=sys_b40 hE;exact⟨_,rfl,Z17 hn λr _=>⟨b3 r,b1 r i,b1 r j⟩⟩
theorem Z0i(hn:n<=200)(hE:Zd5 rs rr ws=0)(i j:Nat):BndQ (pw 4) (Zh (Zbg (Zc7 rs ws n m) m m 0) i j):=by
 have h0:BndQ (pw 4) (0:Rat):=BndQ.zero;have h1:BndQ (pw 4) (1:Rat):=⟨1,rfl,Zbt 4⟩;rw[Zg4 (λi hi=>Zgd hi) (Zj8 _ _ _ _)];by_cases hi:i<m
 ·rw[Gx hi]
  by_cases hj:j<m;rw[Gx hj,Zll hi hj];exact Znv hn hE i j;rw[Gw hj]
  split
  ·split
   exact h1;exact h0
  exact h0
 rw[Gw hi];exact h0
def OfP(rs:List RI)(ws:List Int)(n m:Nat)(X:Nat->Nat->Rat):Prop:=
 (∀ c i,c<m->i<m->Z0 m (λj=>Zex rs ws n i j*X j (m+c))=if i=c then 1 else 0)/\∃ D,0<D/\D<=pw (5*m)/\∀ c k,c<m->k<m->CD D (pw (5*m)) (X k (m+c))
theorem Zw3(hn:n<=200)(hm:m<=12)(hE:Zd5 rs rr ws=0) :
    okZ (pw 200) (m+m) m 0 0 (Z6 (Zbg (Zc7 rs ws n m) m m 0)) 1/\okR (pw 200) (pw 200) (m+m) m 0 0 (Zbg (Zc7 rs ws n m) m m 0)/\Zs0 (Zbg (Zc7 rs ws n m) m m 0) m (m+m) /\
    (Zar m 0 0 (Z6 (Zbg (Zc7 rs ws n m) m m 0)) false 1).2.1=(Zbh m 0 0 (Zbg (Zc7 rs ws n m) m m 0) false).2.1/\(Zbh m 0 0 (Zbg (Zc7 rs ws n m) m m 0) false).2.1<=m /\
    ((Zbh m 0 0 (Zbg (Zc7 rs ws n m) m m 0) false).2.1<m->Zay m (Zex rs ws n)=0) /\
    ((Zbh m 0 0 (Zbg (Zc7 rs ws n m) m m 0) false).2.1=m->Zay m (Zex rs ws n)≠0/\∃ X:Nat->Nat->Rat,Zhg (Zh (Zbh m 0 0 (Zbg (Zc7 rs ws n m) m m 0) false).1) X m (m+m)/\Zhg (λi j=>(Zah (Zar m 0 0 (Z6 (Zbg (Zc7 rs ws n m) m m 0)) false 1).1 i j:Rat)) X m (m+m)/\OfP rs ws n m X):=by
 have f:∀ i,i<m->((Zbg (Zc7 rs ws n m) m m 0)[i]?.getD []).length=m+m:=λi hi=>by
  rw[Zlc hi,Gx hi,Qz,Zgd hi];simp[Zf5]
 obtain⟨o1,o2,o3,o4,o5,o6,o7⟩:=Zrl (b:=4) (n:=m) (m:=m+m) (R:=Zbg (Zc7 rs ws n m) m m 0) (λi j=>Z0i hn hE i j) (Zp8 _ _ _ _) Gk f Gk Gk Gk
 have e:Zay m (Zh (Zbg (Zc7 rs ws n m) m m 0))=Zay m (Zex rs ws n):=Za7 λi j hi hj=>by
  rw[Zg4 (λi hi=>Zgd hi) (Zj8 _ _ _ _),Gx hi,Gx hj,Zll hi hj]
 rw[e]at o6 o7;refine⟨o1,o2,o3,o4,o5,o6,λhr=>?_⟩;obtain⟨x1,X,x2,x3,x4⟩:=o7 hr
 have hS:∀ c i,c<m->i<m->Z0 m (λj=>Zex rs ws n i j*X j (m+c))=if i=c then 1 else 0:=λc i hc hi=>by
  have h6:=x4 i (m+c) hi Gk Gk;rw[Zg4 (λi hi=>Zgd hi) (Zj8 _ _ _ _),Gx hi,Gw Gk,Nat.add_sub_cancel_left,Gx hc]at h6;rw[<- h6];exact Zw λj hj=>by rw[Zg4 (λi hi=>Zgd hi) (Zj8 _ _ _ _),Gx hi,Gx hj,Zll hi hj]
 obtain⟨D,d1,d2,d3⟩:=inv_CD (B:=pw 4) (n:=m) (Q:=Zex rs ws n) (X:=λj c=>X j (m+c)) (λa b _ _=>Znv hn hE a b) (Zbt 4) hS x1;have h:=Zkk (b:=4) m Gk;exact⟨x1,X,x2,x3,hS,D,d1,Qb d2 h,λc k hc hk=>(d3 c k hc hk).mono h⟩
end
theorem Zy6(A:Option Addr)(n c:Nat)(w:World)(hn:n<=maxLen) :
    Calls Tryz.prog 42 #[.slice A n c] w λe w'=>e=.returned (.bool (decide (6<n)))/\Below w.heap.size w w':=by
 exact By
def RI.long6(r:RI):Bool:=decide (6<r.n)
theorem Zz0(A:Option Addr)(n c:Nat)(rs:List RI)(w:World)(h:MIL w A n c rs)(b:Bool)(hb:rs.any RI.long6=b) :
    Calls Tryz.prog 79 #[.slice A n c,.func (.func 42) #[] #[]] w (IdxB w b):=by
 have hl:=h.1;have u:=h.2.1;have f:=h.2.2.1;unfold maxLen at f;replace hl:=Za hl;replace hb:=Za hb;replace h:=Za h;go_in;go_wp2_with fail
 go_loopw [8] (λiv wr=>∃ i:Nat,i<=n/\iv=.int .i64 i/\Hid (∀ j e,j<i->rs[j]?=some e->e.long6=false)/\Below w.heap.size w wr) (λiv _=>n-(intOf iv).toNat)
 case atStart=>exact⟨0,Nat.zero_le _,rfl,Za (λj e hj=>by omega),QI _ _⟩
 case round =>
  obtain⟨i,y,rfl,ay,aK⟩:=hrel;by_cases hin:i<n
  case neg =>
   exact En
  have fw:decide ((i:Int)<(n:Int))=true:=Gv Gk;obtain⟨g,o,r,rfl,he,c0,hL⟩:=(h.out.below aK).at_ hin;have hC:=Za (λW1=>Zy6 r.A r.n r.c W1 hL.nlen);clear hL;by_cases hx:6<r.n
  ·obtain rfl:b=true:=by
     rw[<- hb.out,List.any_eq_true];exact⟨r,Qi he,by unfold RI.long6;simpa using hx⟩
   exact Ca
  have ar:Hid (∀ j e,j<i+1->rs[j]?=some e->e.long6=false):=Za (λj e' hj he'=>by
    rcases Qp j i with h'|h';exact ay.out j e' h' he';obtain rfl:j=i:=Gk;rw[he]at he';cases he';unfold RI.long6;simpa using hx)
  exact Cb
theorem Zwh(A:Option Addr)(n c:Nat)(rs:List RI)(w:World)(h:MIL w A n c rs)(b:Bool)(hb:rs.any RI.long6=b) :
    Calls Tryz.prog 41 #[.slice A n c,.func (.func 42) #[] #[]] w λe w'=>e=.returned (.bool b)/\Below w.heap.size w w':=by
 go_in;go_wp2_with fail;refine(Zz0 A n c rs w h b hb).mono ?_;exact Ee
def ofE(rs:List RI)(ws:List Int):Int:=if rs.any RI.long6=true then 4 else if Zd5 rs (Qd (min rs.length 200) 0) ws≠0 then Zd5 rs (Qd (min rs.length 200) 0) ws else if Zay (n0I rs) (Zex rs ws rs.length)=0 then 22 else 0
section
variable{rs:List RI}{ws:List Int}{E:Int}
theorem Zs4(h:rs.any RI.long6=true):ofE rs ws=4:=by unfold ofE;rw[Gx h]
theorem Zxh(h:rs.any RI.long6=false)(hE:Zd5 rs (Qd (min rs.length 200) 0) ws=E)(h0:E≠0):ofE rs ws=E:=by
 unfold ofE;rw[Gw (by rw[h];decide),hE,Gx h0]
theorem Zxq(h:rs.any RI.long6=false)(hE:Zd5 rs (Qd (min rs.length 200) 0) ws=0)(hd:Zay (n0I rs) (Zex rs ws rs.length)=0):ofE rs ws=22:=by
 unfold ofE;rw[Gw (by rw[h];decide),hE,Gw Gh,Gx hd]
theorem Z2j(h:rs.any RI.long6=false)(hE:Zd5 rs (Qd (min rs.length 200) 0) ws=0)(hd:Zay (n0I rs) (Zex rs ws rs.length)≠0):ofE rs ws=0:=by
 unfold ofE;rw[Gw (by rw[h];decide),hE,Gw Gh,Gw hd]
end
def OfPost(rs:List RI)(ws:List Int)(X:Nat->Nat->Rat)(w:World)(e:Ending)(w':World):Prop:=
 Below w.heap.size w w'/\((ofE rs ws=0/\∃ rt,Zfl rt=Zfy (ofQ X (n0I rs))/\((Zat rt=0/\∃ A c,e=.returned (.tuple #[.slice A (n0I rs) c,.int .i64 0])/\MFL w' A (n0I rs) c (ofQ X (n0I rs))) \/ (Zat rt≠0/\e=.returned (.tuple #[.slice none 0 0,.int .i64 16])))) \/
  (ofE rs ws≠0/\e=.returned (.tuple #[.slice none 0 0,.int .i64 (ofE rs ws)])))
theorem OfPost.fall{rs:List RI}{ws:List Int}{X:Nat->Nat->Rat}{w w':World}{E:Int}(hb:Below w.heap.size w w')(h:ofE rs ws=E)(h0:E≠0):OfPost rs ws X w (.returned (.tuple #[.slice none 0 0,.int .i64 E])) w':=by
 subst h;exact⟨hb,.inr ⟨h0,rfl⟩⟩
def ScT(L L2:List RF)(m i k:Nat)(S:Rat):Prop:=
 L2.length=m/\L2.map RF.g=L.map RF.g/\(∀ (j:Nat) (r:RF),L2[j]?=some r->r.q.length=m)/\∀ j c,j<m->c<m->Zh (L2.map RF.q) j c=if j<i \/ (j=i/\c<k)then Zh (L.map RF.q) j c*S else Zh (L.map RF.q) j c
section
variable{L L2:List RF}{m i k:Nat}{S:Rat}
theorem ScT.start(hl:L.length=m)(hr:∀ (j:Nat) (r:RF),L[j]?=some r->r.q.length=m):ScT L L m 0 0 S:=
 ⟨hl,rfl,hr,λj c _ _=>by rw[Gw Gk]⟩
theorem ScT.step(h:ScT L L2 m i k S){r:RF}(hr:L2[i]?=some r)(hi:i<m)(hk:k<m){x:Rat}(hx:x=Zh (L.map RF.q) i k*S):ScT L (L2.set i ⟨r.g,r.c,r.q.set k x⟩) m i (k+1) S:=by
 obtain⟨h1,h2,h3,h4⟩:=h;have e:i<L2.length:=Gk;have o:=h3 i r hr;refine⟨by rw[QJ];exact h1,?_,λj s hs=>?_,λj c hj hc=>?_⟩;rw[Ze1 (f:=RF.g) (s:=⟨r.g,r.c,r.q.set k x⟩) hr rfl];exact h2
 ·rw[QC]at hs
  by_cases hij:i=j
  ·subst hij
   rw[Gx rfl,Gx e]at hs;cases hs;rw[QJ];exact o
  rw[Gw hij]at hs;exact h3 j s hs
 rw[Zkr,Zts e];have h5:=h4 j c hj hc;rw[Zkr]at h5;by_cases hji:j=i
 ·subst hji
  rw[Gx rfl];rw[Zgp hr]at h5;show (r.q.set k x)[c]?.getD 0=_;rw[QC];by_cases hkc:k=c
  ·subst hkc
   rw[Gx rfl,Gx Gk,Gx Gk,Qj];exact hx
  rw[Gw hkc,h5];by_cases hck:c<k;rw[Gx Gk,Gx Gk];rw[Gw Gk,Gw Gk]
 rw[Gw hji,h5];by_cases hj2:j<i;rw[Gx Gk,Gx Gk];rw[Gw Gk,Gw Gk]
theorem ScT.next(h:ScT L L2 m i m S):ScT L L2 m (i+1) 0 S:=by
 obtain⟨h1,h2,h3,h4⟩:=h;refine⟨h1,h2,h3,λj c hj hc=>?_⟩;rw[h4 j c hj hc];by_cases hj2:j<i+1;rw[Gx Gk,Gx Gk];rw[Gw Gk,Gw Gk]
theorem ScT.done(h:ScT L L2 m m 0 S):L2.map RF.q=(Qu m).map λj=>(Qu m).map λc=>Zh (L.map RF.q) j c*S:=by
 obtain⟨h1,h2,h3,h4⟩:=h;refine QF (by simp[h1]) λj hj1 hj2=>?_;rw[Qm,h1]at hj1;have hs:L2[j]?=some L2[j]:=Qa Gk;have hq:=h3 j _ hs;refine QF (by simp[hq]) λc hc1 hc2=>?_;have hc:c<m:=by simpa [hq]using hc1
 have h5:=h4 j c hj1 hc;rw[Gx Gk]at h5
 have h6:Zh (L2.map RF.q) j c=(L2[j].q)[c]'(by omega):=by
  unfold Zh;rw[Qe,hs,Qn,Qj,Qa Gk,Qj]
 rw[h6]at h5;simp[h5]
end
def InvZB(Q:List (List Rat))(n:Nat)(X:Nat->Nat->Rat)(w:World)(e:Ending)(w':World):Prop:=
 ((Zar n 0 0 (Z6 (Zbg Q n n 0)) false 1).2.1<n/\e=.returned (.tuple #[.slice none 0 0,.int .i64 18])/\Below w.heap.size w w') \/
 ((Zar n 0 0 (Z6 (Zbg Q n n 0)) false 1).2.1=n/\∃ gO L,e=.returned (.tuple #[.slice (some ⟨gO,0,none⟩) n n,.int .i64 0])/\Below w.heap.size w w'/\MatB 35 41 w' gO L/\L.map RF.q=Zj2 X n (n+n)/\w.heap.size<=gO/\∀ r ∈ L,w.heap.size<=r.g)
theorem Zoz(A:Option Addr)(n c:Nat)(rs:List RX)(w:World)(h:MXL w A n c rs)(hs:sqE rs=0)(hn9:n<=12)(V:okZ (pw 200) (n+n) n 0 0 (Z6 (Zbg (qM rs) n n 0)) 1)(hfin:Zs0 (Zbg (qM rs) n n 0) n (n+n))(a0:(Zar n 0 0 (Z6 (Zbg (qM rs) n n 0)) false 1).2.1<=n)
    (X:Nat->Nat->Rat) (hX:(Zar n 0 0 (Z6 (Zbg (qM rs) n n 0)) false 1).2.1=n->Zhg (λi j=>(Zah (Zar n 0 0 (Z6 (Zbg (qM rs) n n 0)) false 1).1 i j:Rat)) X n (n+n)) :
    Calls Tryz.prog 43 #[.slice A n c] w (InvZB (qM rs) n X w):=by
 have hmx:=Gt;have c1:(35:TypeId)≠41:=Gj;obtain⟨a1,b9⟩:=Zzf hs;obtain⟨f1,f2,f3,f4,f5⟩:=Zjg a1;have hl:=h.1;have b8:(qM rs).length=n:=Zn8 h;have T:=qM_row h a1;rw[show n0R rs=n by omega]at T;have O:=h.good a1;obtain⟨W0,b6,o,q0,s0⟩:=Zam w 25 #[.slice A n c];have k0:=q0.cell 0;simp at k0;obtain⟨Q,hQ⟩:=Gz (qM rs);rw[hQ]at b8 T O V hfin a0;rw[hQ]at hX;replace hX:=Za hX;unfold InvZB;rw[hQ];have c0:1<=n:=Gk;replace h:=Za (h.below o);replace hs:=Za hs;replace O:=Za (O.below o);replace T:=Za T;replace V:=Za V;replace a0:=Za a0;replace hfin:=Za hfin;clear f3 f4 f5 a1 b9;go_in;go_wp2_with fail;(try rw[b6]);go_wp2_with fail;refine(Ztk A n c rs W0 h.out 0 hs.out).mono ?_;rintro e w1 ⟨rfl,C⟩;have q1:=Zc C q0;replace O:=Za (O.out.below C);clear k0;go_wp2_with fail;obtain⟨X0,a3⟩:=Gz w1.drew;have u:Below w1.heap.size w1 X0:=by rw[<- a3];exact Zf (QI _ _) 1
 have f:Hid (∀ wx,Below w1.heap.size w1 wx->wx.cell? ⟨w.heap.size,0,none⟩=some (.slice A n c)):=Za (λwx hbx=>by
  have h1:=(q1.below hbx q1.lt).cell 0;simpa using h1)
 refine wp_heldS [] hmx f (by rw[a3];exact u) (λhxs=>?_);rw[a3];refine Zke 4 [0,1,3,4] rfl Gi (f.out _ u) ?_
 iterate 4 (refine tkA ?_;try simp only[Qw,Zhf,Zgs,Zg9,Gr,Gq,Gp])
 refine tk0 ?_;refine wpAnyL_o 2 λK hK=>?_;go_simp;refine(Zx7 81 (.pointer (some ⟨w.heap.size,0,none⟩)) A n c n n Q (λi=>Zf5 n i) X0 (O.out.below u) Gk T.out Gk Gk Gk Gk (λi hi=>Zim _ _) (λx W=>Zng _ _ _) (λW i hbW hi=>Zt9 w.heap.size A n c i W (((q1.below u q1.lt)).below hbW (q1.below u q1.lt).lt) Gk hi)).mono ?_;rintro e w3 ⟨go,L,rfl,b4,-,a7,a9,b3⟩
 have U:L.map RF.q=Zbg Q n n 0:=by
  rw[b3];unfold Zbg;refine Ql λj hj=>?_;rw[Gx (List.mem_range.1 hj)]
 have Y:=a9.mfl a7 (Qc n) (by unfold maxLen;omega);rw[U]at Y;have y:=Gs u b4
 have a2:∀ j,j<n->((Zbg Q n n 0)[j]?.getD []).length=n+n:=λj hj=>by
  rw[Zlc hj,Gx hj,Qz,T.out j hj,Zim]
 replace Y:=Za Y;replace a2:=Za a2;refine hK.out _ _ (λ_=>f.out _ y) ?_;clear hK K a9 U b3 b4 a7
 try simp only[Qw,Zhf,Zgs,Zg9]
 by_cases J:(Zar n 0 0 (Z6 (Zbg Q n n 0)) false 1).2.1<n
 ·skip
  replace J:=Za J;refine wpAnyL_o 5 λK hK=>?_;go_simp;refine(Z1s (some ⟨go,0,none⟩) n n (n+n) (Zbg Q n n 0) w3 Y.out Gk Gk Gk Gk a2.out V.out hfin.out J.out).mono ?_;rintro e w5 ⟨rfl,a4⟩;have I:=Gs y a4;refine hK.out _ _ (λ_=>f.out _ I) ?_;clear hK K
  try simp only[Qw,Zhf,Zgs,Zg9]
  refine Zgt 5 [6,7,8,9,10] rfl Gi (f.out _ I) ?_
  iterate 5 (refine tkA ?_;try simp only[Qw,Zhf,Zgs,Zg9,Gr,Gq,Gp])
  refine tk0 ?_;refine wpAnyL_fin ?_;have a5:Below w.heap.size w w5:=o.trans (C.mono o.size |>.trans (I.mono (Qb o.size C.size)));clear hxs f u y;go_wp2_with fail;go_returns;exact .inl ⟨J.out,rfl,a5⟩
 skip
 have a6:Hid ((Zar n 0 0 (Z6 (Zbg Q n n 0)) false 1).2.1=n):=Za (Nat.le_antisymm a0.out (Nat.not_lt.1 J));clear J;refine wpAnyL_o 5 λK hK=>?_;go_simp;refine(Z04 (some ⟨go,0,none⟩) n n (n+n) (Zbg Q n n 0) w3 Y.out Gk Gk Gk Gk a2.out V.out hfin.out a6.out X (hX.out a6.out)).mono ?_;rintro e w5 ⟨gO,L5,rfl,a4,b7,b2,b0,a8⟩;have I:=Gs y a4;have b1:Hid (w.heap.size<=gO/\∀ r ∈ L5,w.heap.size<=r.g):=Za ⟨Qb (Qb o.size (Qb C.size y.size)) b7,λr hr=>Qb (Qb o.size (Qb C.size y.size)) (a8 r hr)⟩;have b5:=Za (show MatB 35 41 w5 gO L5 from b2);refine hK.out _ _ (λ_=>f.out _ I) ?_;clear hK K
 try simp only[Qw,Zhf,Zgs,Zg9]
 refine Zgt 5 [6,7,8,9,10] rfl Gi (f.out _ I) ?_
 iterate 5 (refine tkA ?_;try simp only[Qw,Zhf,Zgs,Zg9,Gr,Gq,Gp])
 refine tk0 ?_;refine wpAnyL_fin ?_;have a5:Below w.heap.size w w5:=o.trans (C.mono o.size |>.trans (I.mono (Qb o.size C.size)));clear hxs f u y b2;go_wp2_with fail;go_returns;exact .inr ⟨a6.out,gO,L5,rfl,a5,b5.out,b0,b1.out.1,b1.out.2⟩
theorem Fr.raw{w:World}{na:Bool}{A:Option Addr}{n c:Nat}{nb:Bool}{B:Option Addr}{m d:Nat}{r:Rat}(h:Fr w na A n c nb B m d r):okF na (digits r.num.natAbs) nb (digits r.den)=true/\qOf na (digits r.num.natAbs) (digits r.den)=r:=by
 exact Fm
def FE.fx(e:FE):FX:=⟨e.na,e.A,e.n,e.c,digits e.q.num.natAbs,e.nb,e.B,e.m,e.d,digits e.q.den⟩
def Sm8(q:Rat):Prop:=q.num.natAbs<pw 8/\q.den<pw 8
theorem FE.fx_ok{w:World}{e:FE}(h:e.in_ w)(hs:Sm8 e.q):e.fx.in_ w/\e.fx.fine=true/\e.fx.q=e.q:=by
 have h0:Fr w e.na e.A e.n e.c e.nb e.B e.m e.d e.q:=h;have h1:=h0.1.2.2;have h2:=h0.2.2.2;rw[Int.natAbs_natCast]at h2;refine⟨⟨h1,h2⟩,?_,h0.raw.2⟩;unfold FX.fine;rw[Bool.and_eq_true];refine⟨Gv ?_,h0.raw.1⟩;have a1:=(Zq _ 8).2 hs.1;have a2:=(Zq _ 8).2 hs.2;have b1:=h1.len;have b2:=h2.len;unfold FX.few FE.fx;simp only;omega
theorem FL.fxl{w:World}{A:Option Addr}{n c:Nat}{qs:List Rat}(h:FL w A n c qs)(hs:∀ q ∈ qs,Sm8 q):∃ es,FXL w A n c es/\es.map FX.q=qs/\Zey es=true:=by
 obtain⟨fs,h1,h2,h3,h4,rfl,h5⟩:=h;have hk:∀ e ∈ fs,e.fx.in_ w/\e.fx.fine=true/\e.fx.q=e.q:=λe he=>FE.fx_ok (h4 e he) (hs _ (List.mem_map_of_mem he));refine⟨fs.map FE.fx,⟨by rw[Qm];exact h1,h2,h3,λx hx=>?_,λhn=>?_⟩,?_,?_⟩
 ·obtain⟨e,he,rfl⟩:=List.mem_map.1 hx
  exact(hk e he).1
 exact FB
 ·rw[List.map_map]
  exact Ql λe he=>(hk e he).2.2
 unfold Zey;rw[QG];intro x hx;obtain⟨e,he,rfl⟩:=List.mem_map.1 hx;exact(hk e he).2.1
theorem MFL.mxl{w:World}{A:Option Addr}{n c:Nat}{Q:List (List Rat)}(h:MFL w A n c Q)(hs:∀ r ∈ Q,∀ q ∈ r,Sm8 q):∃ rs,MXL w A n c rs/\qM rs=Q/\∀ (i:Nat) (r:RX),rs[i]?=some r->r.n=(Q[i]?.getD []).length/\Zey r.es=true:=by
 obtain⟨h1,h2,h3,h4⟩:=h;rcases Qy n with h0|h0
 ·subst h0
  obtain rfl:Q=[]:=Qs h1;exact⟨[],⟨rfl,h2,h3,λr hr=>(by cases hr),λhn=>absurd hn (Nat.lt_irrefl _)⟩,rfl,λi r hr=>(by simp at hr)⟩
 obtain⟨g,o,rfl,hc⟩:=h4 h0
 obtain⟨rs,r1,r2⟩:=Zme (λi (r:RX)=>w.cell? ⟨g,o+i,none⟩=some (.slice r.A r.n r.c)/\FXL w r.A r.n r.c r.es/\r.es.map FX.q=Q[i]?.getD []/\Zey r.es=true/\r.n=(Q[i]?.getD []).length) n (λi hi=>by
  have hq:Q[i]?=some Q[i]:=Qa Gk;obtain⟨A',n',c',k0,hF⟩:=hc i _ hq;obtain⟨es,e1,e2,e3⟩:=hF.fxl (hs _ (Qq _));exact⟨⟨A',n',c',es⟩,k0,e1,by rw[hq];exact e2,e3,by rw[hq];exact hF.len.symm⟩)
 refine⟨rs,⟨r1,h2,h3,λr hr=>?_,λ_=>⟨g,o,rfl,λk r hk=>(r2 k r hk).1⟩⟩,?_,λi r hr=>⟨(r2 i r hr).2.2.2.2,(r2 i r hr).2.2.2.1⟩⟩;exact IC;unfold qM;apply List.ext_getElem?;intro i;rw[Qe];by_cases hi:i<n
 ·have hr:=Qa (l:=rs) (i:=i) Gk
  have hq:Q[i]?=some Q[i]:=Qa Gk;have:=(r2 i _ hr).2.2.1;rw[hq]at this;rw[hr,hq,Qn];exact congrArg some this
 rw[Qf Gk,Qf (l:=Q) Gk];rfl
theorem Z1i{w:World}{A:Option Addr}{n c m:Nat}{rs:List RX}(h:MXL w A n c rs)(hn:0<n)(hn12:n<=12)(hm:0<m)(hm12:m<=12)(hr:∀ r ∈ rs,r.n=m/\Zey r.es=true):Zg7 rs=0/\n0R rs=m:=by
 obtain⟨r0,f⟩:∃ r,rs[0]?=some r:=⟨_,Qa (by rw[h.1];exact hn)⟩
 have h0:n0R rs=m:=by
  unfold n0R;rw[f];exact(hr r0 (Qi f)).1
 refine⟨?_,h0⟩;unfold Zg7
 have h1:Zh6 rs=false:=by
  unfold Zh6;rw[Qr];refine⟨Gu (by have:=h.1;omega),List.any_eq_false.2 λr e=>?_⟩;have:=(hr r e).1;simp[RX.long,this];omega
 rw[Gw (by simp[h1]),Gw Gk,Gx ?_];rw[QG];intro r e;obtain⟨a1,a2⟩:=hr r e;unfold Zhl;simp[a1,a2,h0]
theorem MatB.stepN{tS tF:TypeId}{w U:World}{go g:Nat}{L:List RF}(h:MatB tS tF w go L)(hs:Zxd w U g)(h1:go≠g)(h2:∀ r ∈ L,r.g≠g):MatB tS tF U go L:=by
 obtain⟨⟨zs,k1⟩,k2,k3⟩:=h;refine⟨⟨zs,hs.2.1 _ _ _ h1 k1⟩,λr hr=>⟨?_,(k2 r hr).2⟩,k3⟩;obtain⟨es,fs,q1,q2,q3⟩:=(k2 r hr).1;exact⟨es,fs,hs.2.1 _ _ _ (h2 r hr) q1,λe he=>Fr.keep (q2 e he) hs.1,q3⟩
theorem MatB.lts{tS tF:TypeId}{w:World}{go:Nat}{L:List RF}(h:MatB tS tF w go L):go<w.heap.size/\∀ r ∈ L,r.g<w.heap.size:=by
 obtain⟨⟨zs,k1⟩,k2,k3⟩:=h;refine⟨k1.lt,λr hr=>?_⟩;obtain⟨es,fs,q1,q2,q3⟩:=(k2 r hr).1;exact q1.lt
theorem Zf7{w:World}{g:Nat}{t:TypeId}{x x0:Int}{p:Addr}{v:Value}(hb:Blk w g t #[.int .i64 x0])(h:w.cell? p=some v)(hv:v ≠ .int .i64 x0):(w.setCell ⟨g,0,none⟩ (.int .i64 x)).cell? p=some v:=by
 by_cases e:(⟨g,0,none⟩:Addr)=p
 ·subst e
  have h2:=hb.cell 0;rw[h]at h2;simp at h2;exact absurd h2 hv
 exact(World.cell?_setCell_other _ _ _ _ e).trans h
theorem FL.code{w:World}{g:Nat}{t:TypeId}{x x0:Int}{A:Option Addr}{n c:Nat}{qs:List Rat}(h:FL w A n c qs)(hb:Blk w g t #[.int .i64 x0]):FL (w.setCell ⟨g,0,none⟩ (.int .i64 x)) A n c qs:=by
 obtain⟨W,hW,-,-,f⟩:=Z8 x (QI 0 w) (Nat.zero_le _) hb;obtain⟨es,h1,h2,h3,h4,h5,h6⟩:=h;refine⟨es,h1,h2,h3,λe he=>?_,h5,λhn=>?_⟩;rw[hW];exact Fr.keep (h4 e he) f.1;obtain⟨g1,o1,e1,hc⟩:=h6 hn;refine⟨g1,o1,e1,λk e he=>?_⟩;obtain⟨c1,c2,c3,c4⟩:=hc k e he;exact⟨Zf7 hb c1 Gh,Zf7 hb c2 Gh,Zf7 hb c3 Gh,Zf7 hb c4 Gh⟩
theorem MFL.code{w:World}{g:Nat}{t:TypeId}{x x0:Int}{A:Option Addr}{n c:Nat}{Q:List (List Rat)}(h:MFL w A n c Q)(hb:Blk w g t #[.int .i64 x0]):MFL (w.setCell ⟨g,0,none⟩ (.int .i64 x)) A n c Q:=by
 obtain⟨h1,h2,h3,h4⟩:=h;refine⟨h1,h2,h3,λhn=>?_⟩;obtain⟨g1,o1,e1,hc⟩:=h4 hn;refine⟨g1,o1,e1,λk q hq=>?_⟩;obtain⟨A',n',c',c1,c2⟩:=hc k q hq;exact⟨A',n',c',Zf7 hb c1 Gh,c2.code hb⟩
def OfX(rs:List RI)(ws:List Int)(X:Nat->Nat->Rat):Prop:=
 ofE rs ws=0->OfP rs ws rs.length (n0I rs) X/\Zhg (λi j=>(Zah (Zar (n0I rs) 0 0 (Z6 (Zbg (Zc7 rs ws rs.length (n0I rs)) (n0I rs) (n0I rs) 0)) false 1).1 i j:Rat)) X (n0I rs) (n0I rs+n0I rs)
theorem sm8_nrm{rs:List RI}{rr ws:List Int}{n m:Nat}(hn:n<=200)(hE:Zd5 rs rr ws=0):∀ r ∈ Zc7 rs ws n m,∀ q ∈ r,Sm8 q:=λr hr q hq=>by
 unfold Zc7 at hr;obtain⟨i,hi,rfl⟩:=List.mem_map.1 hr;obtain⟨j,hj,rfl⟩:=List.mem_map.1 hq;have hb:=Znv hn hE i j;have e:Zex rs ws n i j=((Zc0 ws (Zcg rs i) (Zcg rs j) n:Int):Rat):=rfl;rw[e]at hb;refine⟨Qh hb.num (Zci Gj),?_⟩;rw[hb.den];exact Qo Zeh (Zb1 Gj)
theorem ofS_sm:Sm Zea:=(SmN.int (i:=3) (n:=1000000000000000000) GY).sm Gj Gj
theorem ofX_sm{rs:List RI}{ws:List Int}{n m:Nat}{X:Nat->Nat->Rat}(hm:m<=12)(h:OfP rs ws n m X){k c:Nat}(hk:k<m)(hc:c<m):Sm (X k (m+c)):=by
 obtain⟨-,D,d1,d2,d3⟩:=h;obtain⟨h1,h2⟩:=(d3 c k hc hk).small d1;exact⟨Qh h1 (Zci Gk),Qh (Qb h2 d2) (Zci Gk)⟩
theorem cOf_any(A C:Option Addr)(n c k e0:Nat)(rs:List RI)(ws:List Int)(X:Nat->Nat->Rat)(w:World)(h:MIL w A n c rs)(hw:LimI w C k e0 ws)(hX:OfX rs ws X)(hF:∀ rt,Zfl rt=Zfy (ofQ X (n0I rs))->FacC rt) :
    Calls Tryz.prog 10 #[.slice A n c,.slice C k e0] w (OfPost rs ws X w):=by
 have hmx:=Gt;have r6:=h.2.1;have n5:=h.2.2.1;unfold maxLen at n5;have r5:=hw.2.1;have n9:=hw.2.2.1;unfold maxLen at n9;obtain⟨W0,l6,c7,q5,s0⟩:=Zam w 26 #[.int .i64 0];obtain⟨b,hb⟩:=Gz (rs.any RI.long6);have hC:=Za (Zwh A n c rs W0 (h.below c7) b hb);replace h:=Za (h.below c7);replace hw:=Za (hw.below c7);replace hX:=Za hX;replace hF:=Za hF;replace hb:=Za hb;replace q5:=Za q5;replace c7:=Za c7;replace s0:=Za s0
 go_enter_defers Tryz.func10,Tryz.ntmps10
 go_wp2_with fail;(try rw[l6]);clear l6;refine(hC.out).mono ?_;rintro e w1 ⟨rfl,u⟩;replace h:=Za (h.out.below u);replace hw:=Za (hw.out.below u);replace q5:=Gm u q5;have b8:=Gn c7 u;clear c7 u hC;cases b with
 | true =>
  have c4:=Za (Zs4 (ws:=ws) hb.out);go_wp2_with fail;refine(Zai 4 w1).mono ?_;rintro e w6 ⟨rfl,rfl⟩;go_wp2_with fail;refine leaves_cons (f:=39) (args:=#[.pointer (some ⟨w.heap.size,0,none⟩)]) Gh Ge ?_;have a3:=(q5.out).cell 0;simp at a3;refine(Zae ⟨w.heap.size,0,none⟩ 4 0 _ a3 ((q5.out).frozen 0)).mono ?_;rintro e u' w'' ⟨rfl,rfl,T⟩;obtain⟨V,hV,d4,-,-,hk,sV⟩:=Zn 117 #[.int .i64 4] (b8.out) ((b8.out).size);obtain⟨U,hU,e2,q3,-,kq,-⟩:=Z8 4 d4 (Qc _) (hk _ _ _ (q5.out));rw[hV,hU]at T;subst T;have r4:=q3.cell 0;simp at r4;exact⟨.tuple #[.slice none 0 0,.int .i64 4],by simp[results,Tryz.results10,go_sem,r4],OfPost.fall e2 c4.out Gj⟩
 | false =>
  go_wp2_with fail;refine(Zbi 4 w1).mono ?_;rintro e w6 ⟨rfl,rfl⟩;obtain⟨E,hE⟩:=Gz (Zd5 rs (Qd (min rs.length 200) 0) ws);have f5:=h.out.1;by_cases hE0:E=0
  case neg =>
   have c4:=Za (Zxh hb.out hE hE0);have d6:Hid (Zd5 rs (Qd (min n 200) 0) ws=E):=Za (by rw[<- f5];exact hE);have t1:(E == 0)=false:=by simpa using hE0
   have r1:decide (E=0)=false:=by simpa using hE0
   have q2:(E != 0)=true:=by rw[bne,t1];rfl
   have m5:=Za hE0;replace hE:=Za hE;clear hE0;go_wp2_with fail;refine(Zsz A C n c k e0 rs ws w6 h.out hw.out E d6.out m5.out).mono ?_;rintro e w3 ⟨rfl,u⟩;replace h:=Za (h.out.below u);replace hw:=Za (hw.out.below u);replace q5:=Gm u q5;have o0:=Gn b8 u;clear b8 u;obtain⟨U1,s1,h7,h3,-,-,-⟩:=Z8 E o0.out (Qc _) q5.out;obtain⟨y0,z0⟩:_/\_:=⟨q5.out.cell 0,q5.out.frozen 0⟩;have x0:=h3.cell 0;simp at x0 y0;go_wp2_with fail;refine(Zai E U1).mono ?_;rintro e w7 ⟨rfl,rfl⟩;go_wp2_with fail;refine leaves_cons (f:=39) (args:=#[.pointer (some ⟨w.heap.size,0,none⟩)]) Gh Ge ?_;have a3:=(h3).cell 0;simp at a3;refine(Zae ⟨w.heap.size,0,none⟩ E E _ a3 ((h3).frozen 0)).mono ?_;rintro e u' w'' ⟨rfl,rfl,T⟩;obtain⟨V,hV,d4,-,-,hk,sV⟩:=Zn 117 #[.int .i64 E] (h7) ((h7).size);obtain⟨U,hU,e2,q3,-,kq,-⟩:=Z8 E d4 (Qc _) (hk _ _ _ (h3));rw[hV,hU]at T;subst T;have r4:=q3.cell 0;simp at r4;exact⟨.tuple #[.slice none 0 0,.int .i64 E],by simp[results,Tryz.results10,go_sem,r4],OfPost.fall e2 c4.out m5.out⟩
  subst hE0;obtain⟨p1,p2,p3,p4,p5,p6,p7⟩:=Zxn h.out hE;obtain⟨m,hm⟩:=Gz (n0I rs);have n8:k=n:=by rw[<- hw.out.1,p6]
  subst n8;have d6:Zd5 rs (Qd k 0) ws=0:=by rw[f5,Nat.min_eq_left p2]at hE;exact hE
  have hN:=Za (λW9 (h9:MIL W9 A k c rs) (k9:LimI W9 C k e0 ws)=>Zwj A C k c e0 m rs ws W9 h9 k9 d6 hm);rw[hm]at p3 p4;have i2:=Za (Zw3 (rs:=rs) (rr:=Qd k 0) (ws:=ws) (n:=k) (m:=m) p2 p4 d6);have l0:=Za (sm8_nrm (rs:=rs) (ws:=ws) (rr:=Qd k 0) (n:=k) (m:=m) p2 d6);have e4:=Za (And.intro (λhd:Zay m (Zex rs ws k)=0=>Zxq hb.out hE (by rw[hm,f5];exact hd)) (λhd:Zay m (Zex rs ws k)≠0=>Z2j hb.out hE (by rw[hm,f5];exact hd)))
  have j3:Hid (Zay m (Zex rs ws k)≠0->OfP rs ws k m X/\Zhg (λi j=>(Zah (Zar m 0 0 (Z6 (Zbg (Zc7 rs ws k m) m m 0)) false 1).1 i j:Rat)) X m (m+m)):=Za (λhd=>by
   have h9:=hX.out;unfold OfX at h9;rw[hm,f5]at h9;exact h9 (e4.out.2 hd))
  have e3:m<=12:=p4;have k8:0<m:=p3;replace d6:=Za d6;replace hE:=Za hE;replace hm:=Za hm;clear p1 p2 p3 p4 p5 p6 p7 hX;go_wp2_with fail;refine(hN.out w6 h.out hw.out).mono ?_;rintro e w5 ⟨gn,rfl,u,h5⟩;replace h:=Za (h.out.below u);replace hw:=Za (hw.out.below u);replace q5:=Gm u q5;have l2:=Gn b8 u;clear b8 u h hw hN;replace h5:=Za h5;obtain⟨U7,i8,c8,c6,j5⟩:=Z8 0 l2.out (Qc _) q5.out;have y0:=q5.out.cell 0;have z0:=q5.out.frozen 0;simp at y0;have x0:=c6.cell 0;simp at x0;have j6:=h5.out.code (x:=0) q5.out;rw[i8]at j6;obtain⟨j4,a0,a5,l4⟩:=j6.mxl l0.out
  have d3:=Z1i a0 k8 e3 k8 e3 (λr hr=>by
   obtain⟨i9,n4,n7⟩:=List.getElem_of_mem hr;have h9:=l4 i9 r (by rw[Qa n4,n7]);refine⟨?_,h9.2⟩;rw[h9.1];exact Zgd (by have:=a0.1;omega))
  have k7:Hid (sqE j4=0):=Za (by unfold sqE;rw[d3.1,d3.2,a0.1];simp);replace a0:=Za a0;replace a5:=Za a5;replace c8:=Za c8;replace c6:=Za c6;clear j6 h5 l4 d3 j5;go_wp2_with fail;(try rw[i8]);clear i8 q5 l2 y0 z0;have q5:=c6;clear c6;refine(Zbi 0 U7).mono ?_;rintro e w6 ⟨rfl,rfl⟩;clear x0;obtain⟨o1,o2,o3,o4,o5,o6,o7⟩:=i2.out;have k6:(Zar m 0 0 (Z6 (Zbg (Zc7 rs ws k m) m m 0)) false 1).2.1<=m:=by rw[o4];exact o5
  have f8:Hid ((Zar m 0 0 (Z6 (Zbg (Zc7 rs ws k m) m m 0)) false 1).2.1<m->Zay m (Zex rs ws k)=0):=Za (λh9=>o6 (by rw[<- o4];exact h9));have a9:Hid ((Zar m 0 0 (Z6 (Zbg (Zc7 rs ws k m) m m 0)) false 1).2.1=m->Zay m (Zex rs ws k)≠0):=Za (λh9=>(o7 (by rw[<- o4];exact h9)).1);have i5:=Za (λW9 (h9:MXL W9 (some ⟨gn,0,none⟩) m m j4)=>Zoz (some ⟨gn,0,none⟩) m m j4 W9 h9 k7.out e3 (by rw[a5.out];exact o1) (by rw[a5.out];exact o3) (by rw[a5.out];exact k6) X (λh8=>by rw[a5.out]at h8 ⊢;exact(j3.out (a9.out h8)).2));clear o1 o2 o3 o4 o5 o6 o7 k6 i2 l0 k7;go_wp2_with fail;refine(i5.out w6 a0.out).mono ?_;rintro e q1 hc;clear i5
  have u:Below w6.heap.size w6 q1:=by
   rcases hc with ⟨-,-,h9⟩|⟨-,gO,L,-,h9,-⟩;exact h9;exact h9
  have j9:Hid (w.heap.size<w6.heap.size):=Za q5.out.lt;clear a0;replace q5:=Gm u q5;have f3:=Gn c8 u;clear c8 u;rcases hc with ⟨j2,rfl,-⟩|⟨h1,gO,L,rfl,-,l7,g6,l9,m3⟩
  case inl =>
   rw[a5.out]at j2;have c4:=Za (e4.out.1 (f8.out j2));clear j2 a5;obtain⟨o8,m6,b4,a8,n0⟩:=Z8 18 f3.out (Qc _) q5.out;have y0:=q5.out.cell 0;have z0:=q5.out.frozen 0;simp at y0;have x0:=a8.cell 0;simp at x0;replace b4:=Za b4;replace a8:=Za a8;go_wp2_with fail;(try rw[m6]);refine(Zai 22 o8).mono ?_;rintro e w7 ⟨rfl,rfl⟩;go_wp2_with fail;refine leaves_cons (f:=39) (args:=#[.pointer (some ⟨w.heap.size,0,none⟩)]) Gh Ge ?_;have a3:=(a8.out).cell 0;simp at a3;refine(Zae ⟨w.heap.size,0,none⟩ 22 18 _ a3 ((a8.out).frozen 0)).mono ?_;rintro e u' w'' ⟨rfl,rfl,T⟩;obtain⟨V,hV,d4,-,-,hk,sV⟩:=Zn 117 #[.int .i64 22] (b4.out) ((b4.out).size);obtain⟨U,hU,e2,q3,-,kq,-⟩:=Z8 22 d4 (Qc _) (hk _ _ _ (a8.out));rw[hV,hU]at T;subst T;have r4:=q3.cell 0;simp at r4;exact⟨.tuple #[.slice none 0 0,.int .i64 22],by simp[results,Tryz.results10,go_sem,r4],OfPost.fall e2 c4.out Gj⟩
  rw[a5.out]at h1;have c4:=Za (e4.out.2 (a9.out h1));have n3:=Za (j3.out (a9.out h1)).1;clear h1 a5 f8 a9 j3 e4;have k2:Hid (w.heap.size<gO/\∀ r ∈ L,w.heap.size<r.g):=Za ⟨Qo j9.out l9,λr hr=>Qo j9.out (m3 r hr)⟩;have m4:Hid (L.length=m):=Za (by have h9:=congrArg QE g6;rw[Qm]at h9;rw[h9];unfold Zj2;simp);obtain⟨n2,i1,Y,c9,e6⟩:=Z8 0 f3.out (Qc _) q5.out;have y0:=q5.out.cell 0;have z0:=q5.out.frozen 0;simp at y0;have x0:=c9.cell 0;simp at x0;have o:=Za (l7.stepN e6 (by have:=k2.out.1;omega) (λr hr=>by have:=k2.out.2 r hr;omega));replace Y:=Za Y;replace c9:=Za c9;clear e6 l7 l9 m3 j9;go_wp2_with fail;(try rw[i1]);clear i1 q5 f3 y0 z0;have q5:=c9;clear c9;refine(Zbi 22 n2).mono ?_;rintro e w6 ⟨rfl,rfl⟩;clear x0;go_wp2_with fail;refine(Zjo 1000000000000000000 w6 Gj Gj).mono ?_;rintro e k4 ⟨g7,sn,sA,sk,sc,sm,sB,sj,sd,rfl,sf⟩;replace q5:=Gm g7 q5;replace o:=Za (o.out.below g7);have g4:=Gn Y g7;clear Y g7;replace sf:=Za sf;have i3:=Za o.out.lts;obtain⟨f6,b5⟩:=Gz k4.heap.size;obtain⟨p9,h6,g1,b6⟩:=Zan (w:=k4) 73 #[.bool sn,.slice sA sk sc,.bool sm,.slice sB sj sd];rw[b5]at g1;replace q5:=Gm b6 q5;replace o:=Za (o.out.below b6);replace sf:=Za (sf.out.below b6);have i6:=Gn g4 b6;clear g4 b6;replace g1:=Za g1;have n1:Hid (∀ r ∈ L,r.g<f6):=Za (λr hr=>by have h9:=i3.out.2 r hr;have h8:=b5;omega);go_wp2_with fail;(try rw[b5]);(try rw[h6]);clear h6;replace b5:=Za b5;replace sf:Hid (Fr p9 sn sA sk sc sm sB sj sd Zea):=Za sf.out
  have j7:Hid (∀ (j:Nat) (r:RF),L[j]?=some r->r.q.length=m):=Za (λj r hr=>by
   have h9:(L.map RF.q)[j]?=some r.q:=by rw[Qe,hr];rfl
   rw[g6]at h9;unfold Zj2 at h9;rw[Qe]at h9;obtain⟨x9,-,e9⟩:=Option.map_eq_some_iff.1 h9;rw[<- e9];simp)
  have d8:Hid (∀ j c,j<m->c<m->Zh (L.map RF.q) j c=X j (m+c)):=Za (λj c hj hc=>by
   rw[g6];unfold Zj2 Zh;rw[Qe,Qk hj,Qn,Qj,Qe,Qk Gk];rfl)
  replace g6:=Za g6;clear i3
  go_loopg [38] m (λt iv wr=>∃ (i:Nat) (L2:List RF),i+t=m/\iv=.int .i64 i/\Hid (MatB 35 41 wr gO L2)/\Hid (ScT L L2 m i 0 Zea)/\Hid (Blk wr f6 73 #[.bool sn,.slice sA sk sc,.bool sm,.slice sB sj sd])/\Hid (Fr wr sn sA sk sc sm sB sj sd Zea)/\Hid (Blk wr w.heap.size 26 #[.int .i64 0])/\Hid (Below w.heap.size w wr))
  case atStart=>exact⟨0,L,by omega,rfl,o,Za (ScT.start m4.out j7.out),g1,sf,q5,i6⟩
  case round =>
   clear o g1 sf q5 i6;obtain⟨wi,rfl⟩:=Gy wr;obtain⟨i,L2,r2,rfl,o,y,qs,sf,q5,a4⟩:=hrel;cases gk with
   | zero =>
    obtain rfl:i=m:=Gk;have t1:decide ((i:Int)<(i:Int))=false:=Gh
    have o9:Hid (L2.map RF.q=ofQ X i):=Za (by
     rw[y.out.done];unfold ofQ;refine Ql λj hj=>Ql λc hc=>?_;rw[d8.out j c (List.mem_range.1 hj) (List.mem_range.1 hc)])
    have d7:=o.out.mfl y.out.1 (Qc i) (by unfold maxLen;omega);rw[o9.out]at d7;obtain⟨rt,a0,-,e8⟩:=d7.mxs;have m0:=hF.out rt (by rw[hm.out];exact e8);replace d7:=Za d7;replace a0:=Za a0;have l1:=Za (Zpu (some ⟨gO,0,none⟩) i i rt wi a0.out m0);clear m0 hF o qs sf;go_wp2_with fail;refine l1.out.mono ?_;rintro e w9 ⟨u,k0⟩;replace d7:=Za (d7.out.below u);replace q5:=Gm u q5;have d9:=Gn a4 u;clear a4 u l1;rcases k0 with ⟨d0,rfl⟩|⟨d0,rfl⟩
    case inr =>
     replace d0:=Za d0;go_wp2_with fail;refine leaves_cons (f:=39) (args:=#[.pointer (some ⟨w.heap.size,0,none⟩)]) Gh Ge ?_;have a3:=(q5.out).cell 0;simp at a3;refine(Zae ⟨w.heap.size,0,none⟩ 16 0 _ a3 ((q5.out).frozen 0)).mono ?_;rintro e u' w'' ⟨rfl,rfl,T⟩;obtain⟨V,hV,d4,-,-,hk,sV⟩:=Zn 117 #[.int .i64 16] (d9.out) ((d9.out).size);obtain⟨U,hU,e2,q3,-,kq,-⟩:=Z8 16 d4 (Qc _) (hk _ _ _ (q5.out));rw[hV,hU]at T;subst T;have r4:=q3.cell 0;simp at r4;exact⟨.tuple #[.slice none 0 0,.int .i64 16],by simp[results,Tryz.results10,go_sem,r4],⟨e2,.inl ⟨c4.out,rt,by rw[hm.out];exact e8,.inr ⟨d0.out,rfl⟩⟩⟩⟩
    obtain⟨q4,e7,g9,f4,h2⟩:=Z8 0 d9.out (Qc _) q5.out;have y0:=q5.out.cell 0;have z0:=q5.out.frozen 0;simp at y0;have x0:=f4.cell 0;simp at x0;have i4:=Za (d7.out.code (x:=0) q5.out);rw[e7]at i4;replace d0:=Za d0;have r4:=f4.cell 0;simp at r4;clear h2;go_wp2_with fail;(try rw[e7]);refine leaves_cons (f:=39) (args:=#[.pointer (some ⟨w.heap.size,0,none⟩)]) Gh Ge ?_;refine(Zdv _ _).mono ?_;rintro e u' w'' ⟨rfl,rfl,rfl⟩;exact⟨.tuple #[.slice (some ⟨gO,0,none⟩) i i,.int .i64 0],by simp[results,Tryz.results10,go_sem,r4],g9,.inl ⟨c4.out,rt,by rw[hm.out];exact e8,.inl ⟨d0.out,_,_,by rw[hm.out],by rw[hm.out];exact i4.out⟩⟩⟩
   | succ t' =>
    obtain rfl:t'=m-(i+1):=Gk;have b3:i<m:=Gk;have t1:decide ((i:Int)<(m:Int))=true:=Gv Gk;have r9:decide (i<m)=true:=Gv b3;have bi:(i:Int)<(m:Int):=Gk;have q8:IntKind.i64.wrap ((i:Int)+1)=(i:Int)+1:=IntWalk.i64_in _ Gk;obtain⟨ri,f7⟩:=Zb3 (L:=L2) (i:=i) (by rw[y.out.1];exact b3);obtain⟨r0,h4⟩:=Zb3 (L:=L) (i:=i) (by rw[m4.out];exact b3);obtain⟨ci,zi⟩:=o.out.cell f7;rw[y.out.2.2.1 i ri f7]at ci;have kc:=(o.out.row f7).2;rw[y.out.2.2.1 i ri f7]at kc;have q7:=kc.1;have n6:=kc.2;unfold maxLen at n6;have m1:Hid (ri.g=r0.g):=Za (Z2r y.out.2.1 f7 h4);have j1:Hid (w.heap.size<ri.g/\ri.g<f6):=Za (by rw[m1.out];exact⟨k2.out.2 r0 (Qi h4),n1.out r0 (Qi h4)⟩);clear kc;go_wp2_with fail;clear ci zi
    go_loopg [44] m (λt kv wr=>∃ (k9:Nat) (L3:List RF),k9+t=m/\kv=.int .i64 k9/\Hid (MatB 35 41 wr gO L3)/\Hid (ScT L L3 m i k9 Zea)/\Hid (Blk wr f6 73 #[.bool sn,.slice sA sk sc,.bool sm,.slice sB sj sd])/\Hid (Fr wr sn sA sk sc sm sB sj sd Zea)/\Hid (Blk wr w.heap.size 26 #[.int .i64 0])/\Hid (Below w.heap.size w wr))
    case atStart=>exact⟨0,L2,by omega,rfl,o,y,qs,sf,q5,a4⟩
    case round =>
     clear o y qs sf q5 a4;obtain⟨wk,rfl⟩:=Gy wr;obtain⟨k9,L3,s2,rfl,o,y,qs,sf,q5,a4⟩:=hrel;cases gk with
     | zero =>
      obtain rfl:k9=m:=Gk;have t2:decide ((k9:Int)<(k9:Int))=false:=Gh;have p8:=Za y.out.next;clear y;go_wp2_with fail
      go_roundg (k9-(i+1))
      case measure=>omega
      case rel=>exact⟨i+1,L3,by omega,by go_num,o,p8,qs,sf,q5,a4⟩
     | succ t'' =>
      obtain rfl:t''=m-(k9+1):=Gk;have b0:k9<m:=Gk;have t2:decide ((k9:Int)<(m:Int))=true:=Gv Gk;have r7:decide (k9<m)=true:=Gv b0;have bk:(k9:Int)<(m:Int):=Gk;have r8:IntKind.i64.wrap ((k9:Int)+1)=(k9:Int)+1:=IntWalk.i64_in _ Gk;obtain⟨r3,b9⟩:=Zb3 (L:=L3) (i:=i) (by rw[y.out.1];exact b3);have b7:r3.g=ri.g:=(Z2r y.out.2.1 b9 h4).trans m1.out.symm;have f0:=y.out.2.2.1 i r3 b9;obtain⟨fn,fA,fk,fc,fm,fB,fj,fd,p0,p1,p2,p3,a2⟩:=(o.out.row b9).1.at_ (i:=k9) (by rw[f0];exact b0);rw[b7]at p0 p1 p2 p3
      have g0:r3.q[k9]?.getD 0=X i (m+k9):=by
       have h9:=y.out.2.2.2 i k9 b3 b0;rw[Gw Gk,Zkr,Zgp b9]at h9;rw[h9];exact d8.out i k9 b3 b0
      rw[g0]at a2;have q0:Hid (Sm (X i (m+k9))):=Za (ofX_sm e3 n3.out b3 b0);replace a2:=Za a2;replace g0:=Za g0;replace b7:=Za b7;replace f0:=Za f0;obtain⟨q6,b1⟩:=Gz wk.heap.size;obtain⟨i0,g2,O,J⟩:=Zan (w:=wk) 41 #[.bool fn,.slice fA fk fc,.bool fm,.slice fB fj fd];rw[b1]at O;replace o:=Za (o.out.below J);replace qs:=Gm J qs;replace sf:=Za (sf.out.below J);replace q5:=Gm J q5;replace a2:=Za (a2.out.below J);have e1:=Gn a4 J;clear a4 J;replace O:=Za O;obtain⟨x0,x1,x2,x3,-⟩:=O.out.four;obtain⟨υ0,υ1,υ2,υ3,-⟩:=qs.out.four;obtain⟨l3,b2⟩:=Gz i0.heap.size;obtain⟨m8,g5,a1,I⟩:=Zan (w:=i0) 73 #[.bool sn,.slice sA sk sc,.bool sm,.slice sB sj sd];rw[b2]at a1;replace o:=Za (o.out.below I);replace qs:=Gm I qs;replace sf:=Za (sf.out.below I);replace q5:=Gm I q5;replace a2:=Za (a2.out.below I);replace O:=Gm I O;have d5:=Gn e1 I;clear e1 I;replace a1:=Za a1;go_wp2_with fail;(try rw[b1]);(try rw[g2]);(try rw[b2]);(try rw[g5]);clear g2;replace b1:=Za b1;clear g5;replace b2:=Za b2;clear p0 p1 p2 p3 x0 x1 x2 x3 υ0 υ1 υ2 υ3;have g8:=Za (FL.sing1 a1.out sf.out);refine(Zcf fn fA fk fc fm fB fj fd _ (some ⟨l3,0,none⟩) 1 1 [Zea] m8 a2.out g8.out Gj (Zeq q0.out) (Zfq ofS_sm)).mono ?_;rintro e c5 ⟨a6,pn,pA,pk,pc,pm,pB,pj,pd,rfl,pf⟩;replace o:=Za (o.out.below a6);replace qs:=Gm a6 qs;replace sf:=Za (sf.out.below a6);replace q5:=Gm a6 q5;replace a2:=Za (a2.out.below a6);replace O:=Gm a6 O;replace a1:=Gm a6 a1;replace g8:=Za (g8.out.below a6);have e5:=Gn d5 a6;clear d5 a6;rw[Zia]at pf;clear g8 a1 O a2
      obtain⟨l5,m2,m7,k5⟩:(c5.cell? ⟨ri.g,k9*4,none⟩).isSome/\(c5.cell? ⟨ri.g,k9*4+1,none⟩).isSome/\(c5.cell? ⟨ri.g,k9*4+2,none⟩).isSome/\(c5.cell? ⟨ri.g,k9*4+3,none⟩).isSome:=by
       obtain⟨_,_,_,_,_,_,_,_,c0,c1,c2,c3,-⟩:=(o.out.row b9).1.at_ (i:=k9) (by rw[f0.out];exact b0);rw[b7.out]at c0 c1 c2 c3;rw[c0,c1,c2,c3];exact⟨rfl,rfl,rfl,rfl⟩
      obtain⟨v0,c0⟩:=Option.isSome_iff_exists.1 l5;obtain⟨v1,c1⟩:=Option.isSome_iff_exists.1 m2;obtain⟨v2,c2⟩:=Option.isSome_iff_exists.1 m7;obtain⟨v3,c3⟩:=Option.isSome_iff_exists.1 k5;have a7:=(o.out.row b9).1;have z0:=a7.frozen (k9*4);have z1:=a7.frozen (k9*4+1);have z2:=a7.frozen (k9*4+2);have z3:=a7.frozen (k9*4+3);rw[b7.out]at z0 z1 z2 z3;obtain⟨bt,bcs,k3,l8⟩:=a7.box;have h0:=o.out.set_ b9 (k:=k9) (by rw[f0.out];exact b0) pf;obtain⟨U,hU⟩:=Gz (Zgh c5 ri.g k9 pn pA pk pc pm pB pj pd);rw[b7.out]at h0 k3;rw[<- b7.out]at h0
      have f9:MatB 35 41 U gO (L3.set i ⟨r3.g,r3.c,r3.q.set k9 (X i (m+k9)*Zea)⟩):=by
       rw[<- hU,<- b7.out];exact h0
      have m9:=Za (y.out.step b9 b3 b0 (x:=X i (m+k9)*Zea) (by rw[d8.out i k9 b3 b0]));have j0:Blk U f6 73 #[.bool sn,.slice sA sk sc,.bool sm,.slice sB sj sd]:=by rw[<- hU];exact Zkc qs.out (by have:=j1.out;omega)
      have i7:Blk U w.heap.size 26 #[.int .i64 0]:=by rw[<- hU];exact Zkc q5.out (by have:=j1.out;omega)
      have k1:Fr U sn sA sk sc sm sB sj sd Zea:=by rw[<- hU];exact Zit sf.out k3 l8
      have j8:Below w.heap.size w U:=by rw[<- hU];exact Zjn e5.out (by have:=j1.out;omega)
      unfold Zgh at hU;replace f9:=Za f9;replace j0:=Za j0;replace i7:=Za i7;replace k1:=Za k1;replace j8:=Za j8;clear o y qs q5 sf a7 k3 l8 h0 l5 m2 m7 k5 e5 pf;have q9:=Zvv pn pA pk pc pm pB pj pd;go_wp2_with fail;(try rw[hU])
      go_roundg (m-(k9+1))
      case measure=>omega
      case rel=>exact⟨k9+1,_,by omega,by go_num,f9,m9,j0,k1,i7,j8⟩
def OfXR(rs:List RI)(ws:List Int)(X:Nat->Nat->Rat):Prop:=
 ofE rs ws=0->OfP rs ws rs.length (n0I rs) X/\Zhg (Zh (Zbh (n0I rs) 0 0 (Zbg (Zc7 rs ws rs.length (n0I rs)) (n0I rs) (n0I rs) 0) false).1) X (n0I rs) (n0I rs+n0I rs)
theorem Zl9{rt:List RX}{Q:List (List Rat)}(h:Zfl rt=Zfy Q):qM rt=Q:=by
 rw[sig_qM,h];unfold Zfy;rw[List.map_map]
 have e:((λx:Nat × List (Nat × Bool × Rat)=>x.2.map λy=>y.2.2) ∘ λr:List Rat=>(r.length,r.map λq=>(Zla q,true,q)))=id:=by
  funext r
  simp[Function.comp_def]
 rw[e,List.map_id]
section
variable{X:Nat->Nat->Rat}{m:Nat}
theorem Zmh:(ofQ X m).length=m:=by simp[ofQ]
theorem Zxf{i:Nat}(hi:i<m):((ofQ X m)[i]?.getD []).length=m:=by
 unfold ofQ;rw[Qe,Qk hi];simp
theorem ofQ_ent{i j:Nat}(hi:i<m)(hj:j<m):Zh (ofQ X m) i j=X i (m+j)*Zea:=by
 unfold ofQ Zh;exact Fe
theorem Zxb{rt:List RX}{D b e:Nat}(hsig:Zfl rt=Zfy (ofQ X m))(hD:0<D)(hDe:D<=pw e)(hB:∀ i j,i<m->j<m->BndQ (pw b) ((D:Nat)*(X i (m+j)*Zea)))(h1:m<=6->(b+1)*m<300)(h2:m<=6->(b+1)*m+e<380):FacC rt:=λhV hs=>by
 have hq:=Zl9 hsig
 have hl:rt.length=m:=by
  have h9:=congrArg QE hsig;unfold Zfl Zfy at h9;rw[Qm,Qm,Zmh]at h9;exact h9
 have h6:m<=6:=by have:=hV.facts.2.1;omega
 rw[hl];refine FacP.unif (D:=D) (b:=b) (e:=e) (by rw[hq,Zmh]) Gk (λi hi=>by rw[hq];exact Zxf hi) (λi k hi hk=>symB_iff.1 hs i k (by rw[hq,Zmh];exact hi) (by rw[hq,Zmh];exact hk)) hD hDe (λi j hi=>?_) (h1 h6) (h2 h6);rcases Qp j m with h9|h9;rw[hq,ofQ_ent hi h9];exact hB i j hi h9
 have e0:Zh (qM rt) i j=0:=by
   unfold Zh;rw[Qf (by rw[hq,Zxf hi];exact h9)];rfl
 rw[e0];have e1:((D:Nat):Rat)*0=0:=by grind
 rw[e1];exact BndQ.zero
end
theorem Z2d{rs:List RI}{ws:List Int}(h:ofE rs ws=0):rs.any RI.long6=false/\Zd5 rs (Qd (min rs.length 200) 0) ws=0/\Zay (n0I rs) (Zex rs ws rs.length)≠0:=by
 cases hb:rs.any RI.long6 with
 | true=>rw[Zs4 hb]at h;exact absurd h Gj
 | false =>
  by_cases hE:Zd5 rs (Qd (min rs.length 200) 0) ws=0
  ·refine⟨rfl,hE,λhd=>?_⟩
   rw[Zxq hb hE hd]at h;exact absurd h Gj
  rw[Zxh hb rfl hE]at h;exact absurd h hE
theorem Z3c:BndQ (pw 2) Zea:=⟨1000000000000000000,rfl,by decide +kernel⟩
theorem of_all{w:World}{A:Option Addr}{n c m k:Nat}{rs:List RI}{ws:List Int}(h:MIL w A n c rs)(hG:ModI rs n m k):∃ X,OfX rs ws X/\OfXR rs ws X/\∀ rt,Zfl rt=Zfy (ofQ X (n0I rs))->FacC rt:=by
 by_cases h0:ofE rs ws=0
 ·obtain⟨hb,hE,hd⟩:=Z2d h0
  obtain⟨p1,p2,p3,p4,p5,p6,p7⟩:=Zxn h hE;have y:rs.length=n:=h.1
  have u:n0I rs<=4:=by
   obtain⟨r,hr⟩:∃ r,rs[0]?=some r:=⟨_,Qa Gk⟩;have h1:=(hG.1 0 r p1 Gk hr).1;have h2:=p7 r (Qi hr);omega
  obtain⟨o1,o2,o3,o4,o5,o6,o7⟩:=Zw3 (rs:=rs) (rr:=Qd (min rs.length 200) 0) (ws:=ws) (n:=rs.length) (m:=n0I rs) Gk p4 hE
  have hr:(Zbh (n0I rs) 0 0 (Zbg (Zc7 rs ws rs.length (n0I rs)) (n0I rs) (n0I rs) 0) false).2.1=n0I rs:=by
   rcases Qp (Zbh (n0I rs) 0 0 (Zbg (Zc7 rs ws rs.length (n0I rs)) (n0I rs) (n0I rs) 0) false).2.1 (n0I rs)with h9|h9;exact absurd (o6 h9) hd;omega
  obtain⟨-,X,x1,x2,x3⟩:=o7 hr;refine⟨X,λ_=>⟨x3,x2⟩,λ_=>⟨x3,x1⟩,λrt hsig=>?_⟩;obtain⟨-,D,d1,d2,d3⟩:=x3;refine Zxb (D:=D) (b:=22) (e:=20) hsig d1 (Qb d2 (Zb1 Gk)) (λi j hi hj=>?_) (λ_=>by omega) (λ_=>by omega);obtain⟨z,hz,o⟩:=d3 j i hj hi
  have f:((D:Nat):Rat)≠0:=λe=>by
   have:D=0:=by exact_mod_cast e
   omega
  have e:((D:Nat):Rat)*(X i (n0I rs+j)*Zea)=(z:Rat)*Zea:=by
   rw[hz]
   have e2:((D:Nat):Rat)*((z:Rat)/((D:Nat):Rat))=(z:Rat):=by
    rw[Rat.div_def,<- Qx,QA ((D:Nat):Rat) (z:Rat),Qx,Rat.mul_inv_cancel _ f,Rat.mul_one]
   rw[<- Qx,e2]
  rw[e];refine(BndQ.mul (⟨z,rfl,o⟩:BndQ (pw (5*n0I rs)) (z:Rat)) Z3c).mono ?_;rw[<- Zb8];exact Zb1 Gk
 refine⟨λ_ _=>0,λh9=>absurd h9 h0,λh9=>absurd h9 h0,λrt hsig=>?_⟩;refine Zxb (D:=1) (b:=0) (e:=0) hsig Gj Gj (λi j _ _=>?_) (λ_=>by omega) (λ_=>by omega);have e:((1:Nat):Rat)*(0*Zea)=0:=by grind
 rw[e];exact BndQ.zero
def Zkd(R:List (List Rat)):Nat->Nat
 | 0=>1
 | i+1=>Zkd R i*denTo (R[i]?.getD []) (i+1)
section
variable{R:List (List Rat)}{n:Nat}{a:List Int}
theorem Ztw(R:List (List Rat)):∀ n,0<Zkd R n
 | 0=>Nat.one_pos
 | n+1=>Nat.mul_pos (Ztw R n) (Zds _ _)
theorem Zr7(R:List (List Rat)){i:Nat}:∀ {n:Nat},i<n->denTo (R[i]?.getD []) (i+1) ∣ Zkd R n
 | n+1,h=>by
  show _ ∣ Zkd R n*denTo (R[n]?.getD []) (n+1);rcases Qp i n with h1|h1;exact Nat.dvd_trans (Zr7 R h1) (Nat.dvd_mul_right _ _);obtain rfl:i=n:=Gk;exact Nat.dvd_mul_left _ _
theorem Zw7(h:SmE 4 R):∀ n,Zkd R n<=pw (2*(n*(n+1)))
 | 0=>Qc _
 | n+1=>by
  have h1:=Zw7 h n;have h2:=h.denTo n (n+1);have e:2*((n+1)*(n+1+1))=2*(n*(n+1))+4*(n+1):=by grind
  rw[e,Zb8];exact Qg h1 h2
theorem den_tri(hA:∀ i k,i<n->k<n->Zh R i k=Zh R k i){i k:Nat}(hi:i<n)(hk:k<n):(Zh R i k).den ∣ Zkd R n:=by
 have h:∀ i k,i<n->k<=i->(Zh R i k).den ∣ Zkd R n:=λi k hi hk=>Nat.dvd_trans (Zgn (R[i]?.getD []) (j:=k) (k:=i+1) Gk) (Zr7 R hi);rcases Nat.le_total k i with h1|h1;exact h i k hi h1;rw[hA i k hi hk];exact h k i hk h1
theorem Z20{Q:Nat->Nat->Rat}{i k:Nat}:imT Q n a a i k+Q i k*((gI a i*gI a k:Int):Rat)=imT Q n a a i (k+1):=by
 rw[Zoe,Rat.intCast_mul];grind
theorem Zmr{Q:Nat->Nat->Rat}:imT Q n a a n 0=Z0 n (λi=>Z0 n (λk=>Q i k*(((gI a i:Int):Rat)*((gI a k:Int):Rat)))):=by
 unfold imT;have e:Z0 0 (λt=>Q n t*(gI a n:Rat)*(gI a t:Rat))=0:=rfl;rw[e,Rat.add_zero];exact Zw λi _=>Zw λk _=>by grind
theorem imT_tri(hS:SmE 4 R)(hn:n<=4)(hA:∀ i k,i<n->k<n->Zh R i k=Zh R k i)(ha:Zfi a):Zla (imT (Zh R) n a a n 0)<=64:=by
 have hD:Zkd R n<=pw 40:=Qb (Zw7 hS n) (Zb1 (by
  have:n*(n+1)<=4*5:=Qg hn Gk;omega))
 have f:∀ i k,i<n->k<n->BndQ (pw 48) ((Zkd R n:Nat)*(Zh R i k*(((gI a i:Int):Rat)*((gI a k:Int):Rat)))):=λi k hi hk=>by
  have h1:=Zpn (den_tri hA hi hk);have h2:BndQ (pw 2) (gI a i:Rat):=⟨gI a i,rfl,Zkz (ha i)⟩;have h3:BndQ (pw 2) (gI a k:Rat):=⟨gI a k,rfl,Zkz (ha k)⟩;have h4:=(h1.mul h2).mul h3;have e:((Zkd R n:Nat):Rat)*(Zh R i k*(((gI a i:Int):Rat)*((gI a k:Int):Rat)))=((Zkd R n:Nat):Rat)*Zh R i k*(gI a i:Rat)*(gI a k:Rat):=by grind
  rw[e];refine h4.mono ?_;have h5:Zkd R n*(Zh R i k).num.natAbs<=pw 40*pw 4:=Qg hD (hS i k).1;have h6:Zkd R n*(Zh R i k).num.natAbs*pw 2*pw 2<=pw 40*pw 4*pw 2*pw 2:=Qg (Qg h5 (Qc _)) (Qc _);rw[<- Zb8,<- Zb8,<- Zb8]at h6;exact h6
 have h1:BndQ (n*(n*pw 48)) ((Zkd R n:Nat)*imT (Zh R) n a a n 0):=by
  rw[Zmr,QA,<- Zkw];refine Zkt λi hi=>?_;rw[<- Zkw];exact Zkt λk hk=>by rw[QA];exact f i k hi hk
 obtain⟨h2,h3⟩:=Zpb (Ztw R n) h1
 have h4:n*(n*pw 48)<pw 49+1:=by
  have e:pw 49=4294967296*pw 48:=Zaz 48;rw[e,<- Nat.mul_assoc];have h5:n*n<=4*4:=Qg hn hn;have h6:n*n*pw 48<=4294967296*pw 48:=Nat.mul_le_mul_right _ Gk;omega
 have h5:pw 49<pw 50:=Zci Gj;have h6:pw 50<pw 64:=Zci Gj;have h7:pw 40<pw 64:=Zci Gj;unfold Zla;refine Nat.max_le.2 ⟨(Zq _ _).2 Gk,(Zq _ _).2 Gk⟩
theorem Zuf{l:List Int}(h:∀ x ∈ l,x.natAbs<=1099511627776):Zfi l/\Zop l=false:=by
 have h1:∀ x:Int,x.natAbs<=1099511627776->Zkm x=false:=λx hx=>by
  unfold Zkm;rw[Qr];exact⟨Gu Gk,Gu Gk⟩
 refine⟨λk=>?_,?_⟩
 ·unfold gI
  rcases Qp k l.length with h3|h3
  ·rw[Qa h3,Qj]
   exact h1 _ (h _ (Qq h3))
  rw[Qf h3];decide
 unfold Zop;rw[QB];intro x hx;rw[h1 x (h x hx)];decide
theorem Zqf{rs:List RX}(h0:Zat rs=0){l:List Int}(hl:l.length=rs.length)(h:∀ x ∈ l,x.natAbs<=1099511627776):Zh0 rs [l]=0:=
 Zxr h0 Gh Gh λx hx=>by
  rw[List.mem_singleton]at hx;subst hx;unfold Zk6;rw[Gv hl,(Zuf h).2];rfl
def Zd9(n i:Nat):List Int:=(Qu n).map λj=>if j=i then 1 else 0
theorem Zp9(i j:Nat):gI (Zd9 n i) j=if j<n/\j=i then 1 else 0:=by
 unfold gI Zd9;rw[Qe];rcases Qp j n with h|h
 ·rw[Qk h]
  by_cases e:j=i;rw[Gx ⟨h,e⟩,Qn,Qj,Gx e];rw[Gw (λh=>e h.2),Qn,Qj,Gw e]
 rw[Qf (by simpa using h),Gw Gk];rfl
theorem Z22{Q:Nat->Nat->Rat}{i:Nat}(hi:i<n):imT Q n (Zd9 n i) (Zd9 n i) n 0=Q i i:=by
 rw[Zmr];have h1:∀ t:Nat,t≠i->((gI (Zd9 n i) t:Int):Rat)=0:=λt h=>by rw[Zp9,Gw (λh2=>h h2.2)];rfl
 have h2:((gI (Zd9 n i) i:Int):Rat)=1:=by rw[Zp9,Gx ⟨hi,rfl⟩];rfl
 rw[Zfk i hi (λr _ hne=>Zgl λt _=>by rw[h1 r hne];grind),Zfk i hi (λt _ hne=>by rw[h1 t hne];grind),h2]
 grind
theorem Ztv{rt:List RX}{q:Rat}(h:Zfl rt=Zfy [[q]])(hq:0<q)(hf:Zla q<=64):Zat rt=0:=by
 have e:=Zl9 h
 have hl:rt.length=1:=by
  have h9:=congrArg QE h;simpa [Zfl,Zfy]using h9
 have hV:covV rt:=by
  refine⟨?_,by omega,?_⟩;rw[Zsb,h];simp[Zfy];rw[Zs3,h,hl];simp[Zfy,hf]
 refine hV.pos ?_ ?_
 ·rw[e,symB_iff]
  intro i k hi hk;simp only[List.length_cons,List.length_nil]at hi hk;obtain rfl:i=0:=Gk;obtain rfl:k=0:=Gk;rfl
 rw[e,hl];intro t ht;obtain rfl:t=0:=Gk;exact hq
theorem Zyt{rt:List RX}{q:Rat}(h:Zfl rt=Zfy [[q]])(h0:Zat rt=0):0<q:=by
 have e:=Zl9 h;obtain⟨hV,-,hp⟩:=Zew h0;have h1:=hp 0 hV.facts.1;rw[e]at h1;exact h1
end
