/- The reference's Inverted, Inverse. Package linear: -/
import Derived.ProofKit
import Derived.Deep.Slices
import Derived.Deep.Fields
import Derived.ChangeSame
import Derived.Test.YtdkhcplnoomcbaaGreatDoorProg
import Derived.Test.YtdkhcplnoomcbaaGreatDoorZb17
set_option maxRecDepth 100000
set_option maxHeartbeats 8000000
set_option linter.unusedSimpArgs false
set_option linter.unusedVariables false
namespace Go.Proofs.YtdkhcplnoomcbaaGreatDoor
open Go.RowKit
open Nat renaming le_refl→Qa,le_trans→Qc,lt_of_le_of_lt→Qd,add_le_add→Qh,mul_le_mul→Ql,zero_le→Qm,mul_one→Qq,add_assoc→Qw
open List renaming getElem?_eq_getElem→Qb,getElem?_eq_none→Qe,getElem_mem→Qi,range→Qj,getElem?_map→Qn,any_eq_false→Qo,getElem_cons_zero→Qr,getElem_cons_succ→Qs,mem_of_getElem?→Qt,getElem_toArray→Qv,getElem?_range→Qx,mem_singleton→Qy,length_map→QD,map_append→QE
open Act renaming put→Qf
open Option renaming map_some→Qg,getD_some→QA
open Rat renaming intCast_natCast→Qk,intCast_mul→QB,intCast_neg→QC
open Bool renaming and_eq_true→Qp,or_eq_false_iff→Qu,not_eq_true'→Qz
open Kept renaming refl→QF
open And renaming intro→QG
attribute [local go_sem] Zf
section
variable{t:TypeId}{w w':World}{g rest:Nat}{qs:List Rat}
end
section
variable{k n m:Nat}{R:List (List Rat)}
end
def dfZ:DF:=⟨false,[],false,[]⟩
theorem Zvu{n:Nat}(f g:Nat->Rat):sumQ n (λi=>f i+g i)=sumQ n f+sumQ n g:=by
 exact EI
theorem Zln{n:Nat}(f g:Nat->Rat):sumQ n (λi=>f i-g i)=sumQ n f-sumQ n g:=by
 exact EI
theorem Zkn(ws:List Int)(a b:Nat->Int)(n:Nat):((Zb5 ws a b n:Int):Rat)=sumQ n (λr=>(Zau ws r:Rat)*((a r:Rat)*(b r:Rat))):=by
 induction n with
 | zero=>rfl
 | succ n ih =>
  simp only[Zb5,sumQ];rw[Rat.intCast_add,QB,QB,ih];rfl
section
variable(rs:List RI)(rr ws:List Int)(x:Nat->Rat)
def Zbs(t r:Nat):Rat:=(Zau rr r:Rat)-sumQ t (λk=>(Z7 rs k r:Rat)*x k)
def Zcr(m t:Nat):Rat:=sumQ t (λr=>Zbs rs rr x m r*Zbs rs rr x m r*(Zau ws r:Rat))
def leftT(n t:Nat):Rat:=((Zb5 ws (Zau rr) (Zau rr) n:Int):Rat)-sumQ t (λk=>x k*((Zb5 ws (Z7 rs k) (Zau rr) n:Int):Rat))
def Zdw(n m:Nat):Prop:=∀ i,i<m->sumQ m (λj=>((Zb5 ws (Z7 rs i) (Z7 rs j) n:Int):Rat)*x j)=((Zb5 ws (Z7 rs i) (Zau rr) n:Int):Rat)
end
section
variable{rs:List RI}{rr ws:List Int}{x:Nat->Rat}{n m:Nat}
theorem Zs3(t r:Nat):Zbs rs rr x (t+1) r=Zbs rs rr x t r-(Z7 rs t r:Rat)*x t:=by
 unfold Zbs;simp only[sumQ]
 grind
theorem Zs8(r:Nat):Zbs rs rr x 0 r=(Zau rr r:Rat):=by
 unfold Zbs;simp only[sumQ]
 grind
theorem Zvk(hN:Zdw rs rr ws x n m){k:Nat}(hk:k<m):sumQ n (λr=>(Zau ws r:Rat)*(Zbs rs rr x m r*(Z7 rs k r:Rat)))=0:=by
 have h1:sumQ n (λr=>(Zau ws r:Rat)*(Zbs rs rr x m r*(Z7 rs k r:Rat)))=sumQ n (λr=>(Zau ws r:Rat)*((Z7 rs k r:Rat)*(Zau rr r:Rat))-sumQ m (λj=>(Zau ws r:Rat)*((Z7 rs k r:Rat)*(Z7 rs j r:Rat))*x j)):=Zx λr _=>by
  have h2:sumQ m (λj=>(Zau ws r:Rat)*((Z7 rs k r:Rat)*(Z7 rs j r:Rat))*x j)=sumQ m (λj=>(Z7 rs j r:Rat)*x j)*((Zau ws r:Rat)*(Z7 rs k r:Rat)):=by
   rw[<- Zf5];exact Zx λj _=>by grind
  rw[h2];unfold Zbs
  grind
 have h3:sumQ n (λr=>sumQ m (λj=>(Zau ws r:Rat)*((Z7 rs k r:Rat)*(Z7 rs j r:Rat))*x j))=sumQ m (λj=>((Zb5 ws (Z7 rs k) (Z7 rs j) n:Int):Rat)*x j):=by
  rw[Zjb];exact Zx λj _=>by rw[Zf5,Zkn]
 rw[h1,Zln,h3,hN k hk,Zkn]
 grind
end
def B40(z:Int):Prop:=z.natAbs<=1099511627776
theorem Zvo:1099511627776<=pw 2:=by decide +kernel
section
variable{D M N:Nat}{q:Rat}
theorem CD.small(h:CD D M q)(hD:0<D):q.num.natAbs<=M/\q.den<=D:=by
 obtain⟨z,e,hz⟩:=h
 have f:((D:Int):Rat)≠0:=by
  intro h0;have:=Rat.intCast_inj.1 (show ((D:Int):Rat)=((0:Int):Rat) by simpa using h0);omega
 have e2:((D:Int):Rat)*q=(z:Rat):=by
  have h2:((D:Int):Rat)=(D:Rat):=Qk D;rw[h2]at f ⊢;rw[e]
  grind
 exact Zfr ⟨z,e2,hz⟩ ⟨(D:Int),rfl,by simp⟩ f
theorem CD.sm(h:CD D M q)(hD:0<D){i j:Nat}(hM:M<=pw i)(hDj:D<=pw j)(hi:i<1000)(hj:j<1000):Sm q:=
 ⟨Qd (Qc (h.small hD).1 hM) (Zjr hi),Qd (Qc (h.small hD).2 hDj) (Zjr hj)⟩
theorem CD.liftL{E:Nat}(h:CD E M q)(hD:0<D)(hE:E=1):CD D (M*D) q:=by
 subst hE;have:=h.lift hD
 rwa [Nat.one_mul]at this
theorem CD.zero:CD D M 0:=⟨0,by rw[show ((0:Int):Rat)=0 from rfl];grind,Qm _⟩
theorem CD.sumQ{n:Nat}{f:Nat->Rat}(h:∀ i,i<n->CD D M (f i)):CD D (n*M) (sumQ n f):=by
 induction n with
 | zero=>exact CD.zero
 | succ n ih =>
  rw[Nat.succ_mul];exact(ih λi hi=>h i Gk).add (h n Gk)
end
theorem Zwe{B n:Nat}{Q:Nat->Nat->Rat}{x y:Nat->Rat}(hQ:∀ a b,a<n->b<n->BndQ B (Q a b))(hy:∀ a,a<n->BndQ B (y a))(hE:∀ i,i<n->sumQ n (λj=>Q i j*x j)=y i)(h0:Zas n Q≠0) :
    ∃ D,0<D/\D<=Zbd B n/\∀ k,k<n->CD D (Zbd B n) (x k):=by
 obtain⟨d,hd,u⟩:=Zgh hQ;have o:d≠0:=λe=>h0 (by rw[hd,e];rfl);refine⟨d.natAbs,by omega,u,λk hk=>?_⟩;have hc:=Zoe Q x y hE hk
 obtain⟨z,hz,f⟩:=Zgh (B:=B) (n:=n) (M:=λa b=>if b=k then y a else Q a b) (λa b ha hb=>by
  show BndQ B (if b=k then y a else Q a b);by_cases h:b=k;rw[Gx h];exact hy a ha;rw[Gw h];exact hQ a b ha hb)
 rw[hz,hd]at hc;have C:(d:Rat)≠0:=λe=>o (by exact_mod_cast e);rcases Int.natAbs_eq d with h|h
 ·refine⟨z,?_,f⟩
  have h1:((d.natAbs:Nat):Rat)=(d:Rat):=by rw[<- Qk,<- h]
  rw[h1,<- hc]
  grind
 refine⟨-z,?_,by rw[Int.natAbs_neg];exact f⟩
 have h1:((d.natAbs:Nat):Rat)=-(d:Rat):=by
  rw[<- Qk,show ((d.natAbs:Nat):Int)=-d by omega,QC]
 rw[h1,QC,<- hc]
 grind
structure Zns (rs:List RI) (rr ws:List Int) (x:Nat->Rat) (n m:Nat):Prop where
 xk:∀ k,k<m->Sm (x k)
 f:∀ r k,r<n->k<m->Sm ((Z7 rs k r:Rat)*x k)
 res:∀ r t,r<n->t<=m->Sm (Zbs rs rr x t r)
 sq:∀ r,r<n->Sm (Zbs rs rr x m r*Zbs rs rr x m r)
 wsq:∀ r,r<n->Sm (Zbs rs rr x m r*Zbs rs rr x m r*(Zau ws r:Rat))
 sum:∀ t,t<=n->Sm (Zcr rs rr ws x m t)
 c:∀ k,k<m->Sm ((Zb5 ws (Z7 rs k) (Zau rr) n:Int):Rat)
 xc:∀ k,k<m->Sm (x k*((Zb5 ws (Z7 rs k) (Zau rr) n:Int):Rat))
 Zcy:∀ t,t<=m->Sm (leftT rs rr ws x n t)
theorem Zsp{ws:List Int}{a b:Nat->Int}:∀ (n:Nat),(∀ r,r<n->B40 (Zau ws r)/\B40 (a r)/\B40 (b r))->(Zb5 ws a b n).natAbs<=n*(1099511627776*(1099511627776*1099511627776))
 | 0,_=>by simp[Zb5]
 | n+1,h=>by
  have ih:=Zsp n (λr hr=>h r Gk);obtain⟨h1,h2,h3⟩:=h n Gk
  have h4:((Zau ws n)*(a n*b n)).natAbs<=1099511627776*(1099511627776*1099511627776):=by
   rw[Int.natAbs_mul,Int.natAbs_mul];exact Ql h1 (Ql h2 h3)
  have h5:Zb5 ws a b (n+1)=Zb5 ws a b n+Zau ws n*(a n*b n):=rfl;rw[h5,Nat.succ_mul];exact Qc (Int.natAbs_add_le _ _) (Qh ih h4)
theorem Zuh:200*(1099511627776*(1099511627776*1099511627776))<=pw 4:=by decide +kernel
theorem Zgo{ws:List Int}{a b:Nat->Int}{n:Nat}(hn:n<=200)(h:∀ r,r<n->B40 (Zau ws r)/\B40 (a r)/\B40 (b r)):(Zb5 ws a b n).natAbs<=pw 4:=
 Qc (Zsp n h) (Qc (Ql hn (Qa _)) Zuh)
theorem Zcl{a b i j:Nat}(ha:a<=pw i)(hb:b<=pw j):a*b<=pw (i+j):=by rw[Zja];exact Ql ha hb
theorem k_pw{n:Nat}(h:n<=4294967296):n<=pw 1:=by
 have:pw 1=4294967296:=Gd;rw[this];exact h
theorem Iq{G:Prop}(h:G:=by
 have:=(ep _ (ha r k hr hk)).mul (hx k hk);rw[Nat.one_mul]at this;exact this.mono (Zcl (Nat.le_refl _) hZe)):G:=h
theorem Iy{G:Prop}(h:G:=by
 have:=(csq r hr).mul (ep _ (hw r hr));rw[Nat.mul_one]at this;exact this.mono (Zcl (Nat.le_refl _) (Nat.le_refl _))):G:=h
theorem Zto{rs:List RI}{rr ws:List Int}{x:Nat->Rat}{n m e D Z:Nat}(hn:n<=200)(hm:m<=200)(hD:0<D)(hDe:D<=pw e)(hZe:Z<=pw e)(he:2*e+20<1000)(hx:∀ k,k<m->CD D Z (x k))
    (ha:∀ r k,r<n->k<m->B40 (Z7 rs k r)) (hb:∀ r,r<n->B40 (Zau rr r)) (hw:∀ r,r<n->B40 (Zau ws r)):Zns rs rr ws x n m:=by
 have ep:∀ z:Int,B40 z->CD 1 (pw 2) (z:Rat):=λz hz=>(CD.whole z).mono (Qc hz Zvo);have u:D*D<=pw (e+e):=Zcl hDe hDe;have o:0<D*D:=Nat.mul_pos hD hD
 have cf:∀ r k,r<n->k<m->CD D (pw (2+e)) ((Z7 rs k r:Rat)*x k):=λr k hr hk=>by
  exact Iq
 have cres:∀ r t,r<n->t<=m->CD D (pw (e+4)) (Zbs rs rr x t r):=λr t hr ht=>by
  unfold Zbs;have h1:=(ep _ (hb r hr)).liftL hD rfl;have h2:=CD.sumQ (n:=t) (f:=λk=>(Z7 rs k r:Rat)*x k) (λk hk=>cf r k hr Gk);refine(h1.sub h2).mono ?_;have h3:pw 2*D<=pw (e+3):=Qc (Zcl (Qa _) hDe) (Zbm Gk);have h4:t*pw (2+e)<=pw (e+3):=Qc (Zcl (k_pw (show t<=4294967296 by omega)) (Qa _)) (Zbm Gk);exact Qc (Qh h3 h4) (Zhy (e+3))
 have csq:∀ r,r<n->CD (D*D) (pw (e+4+(e+4))) (Zbs rs rr x m r*Zbs rs rr x m r):=λr hr =>
  ((cres r m hr (Qa _)).mul (cres r m hr (Qa _))).mono (Zcl (Qa _) (Qa _))
 have cw:∀ r,r<n->CD (D*D) (pw (e+4+(e+4)+2)) (Zbs rs rr x m r*Zbs rs rr x m r*(Zau ws r:Rat)):=λr hr=>by
  exact Iy
 have csum:∀ t,t<=n->CD (D*D) (pw (1+(e+4+(e+4)+2))) (Zcr rs rr ws x m t):=λt ht =>
  (CD.sumQ (n:=t) (f:=λr=>Zbs rs rr x m r*Zbs rs rr x m r*(Zau ws r:Rat)) (λr hr=>cw r Gk)).mono (Zcl (k_pw Gk) (Qa _))
 have cc:∀ a b:Nat->Int,(∀ r,r<n->B40 (a r)/\B40 (b r))->CD 1 (pw 4) ((Zb5 ws a b n:Int):Rat):=λa b h=>(CD.whole _).mono (Zgo hn λr hr=>⟨hw r hr,h r hr⟩)
 have cxc:∀ k,k<m->CD D (pw (e+4)) (x k*((Zb5 ws (Z7 rs k) (Zau rr) n:Int):Rat)):=λk hk=>by
  have:=(hx k hk).mul (cc (Z7 rs k) (Zau rr) (λr hr=>⟨ha r k hr hk,hb r hr⟩));rw[Qq]at this;exact this.mono (Zcl hZe (Qa _))
 have cleft:∀ t,t<=m->CD D (pw (e+6)) (leftT rs rr ws x n t):=λt ht=>by
  unfold leftT;have h1:=(cc (Zau rr) (Zau rr) (λr hr=>⟨hb r hr,hb r hr⟩)).liftL hD rfl;have h2:=CD.sumQ (n:=t) (f:=λk=>x k*((Zb5 ws (Z7 rs k) (Zau rr) n:Int):Rat)) (λk hk=>cxc k Gk);refine(h1.sub h2).mono ?_;have h3:pw 4*D<=pw (e+5):=Qc (Zcl (Qa _) hDe) (Zbm Gk);have h4:t*pw (e+4)<=pw (e+5):=Qc (Zcl (k_pw (show t<=4294967296 by omega)) (Qa _)) (Zbm Gk);exact Qc (Qh h3 h4) (Zhy (e+5))
 refine⟨λk hk=>(hx k hk).sm hD hZe hDe Gk Gk,λr k hr hk=>(cf r k hr hk).sm hD (Qa _) hDe Gk Gk,λr t hr ht=>(cres r t hr ht).sm hD (Qa _) hDe Gk Gk,
  λr hr=>(csq r hr).sm o (Qa _) u Gk Gk,λr hr=>(cw r hr).sm o (Qa _) u Gk Gk,λt ht=>(csum t ht).sm o (Qa _) u Gk Gk,
  λk hk=>(cc (Z7 rs k) (Zau rr) (λr hr=>⟨ha r k hr hk,hb r hr⟩)).sm Gk (Qa _) (Zdt 0) Gk Gk,λk hk=>(cxc k hk).sm hD (Qa _) hDe Gk Gk,λt ht=>(cleft t ht).sm hD (Qa _) hDe Gk Gk⟩
theorem Zec{t:TypeId}{w:World}{g:Nat}{a0:Bool}{A0:Option Addr}{n0 c0:Nat}{b0:Bool}{B0:Option Addr}{m0 d0:Nat}(na:Bool)(A:Option Addr)(n c:Nat)(nb:Bool)(B:Option Addr)(m d:Nat)(hb:Blk w g t #[.bool a0,.slice A0 n0 c0,.bool b0,.slice B0 m0 d0]) :
    ∃ W,(((w.setCell ⟨g,0,none⟩ (.bool na)).setCell ⟨g,1,none⟩ (.slice A n c)).setCell ⟨g,2,none⟩ (.bool nb)).setCell ⟨g,3,none⟩ (.slice B m d)=W/\Blk W g t #[.bool na,.slice A n c,.bool nb,.slice B m d]/\Kept (λk=>k=g) w W/\W.heap.size=w.heap.size:=by
 have o:Blk (w.setCell ⟨g,0,none⟩ (.bool na)) g t #[.bool na,.slice A0 n0 c0,.bool b0,.slice B0 m0 d0]:=hb.set_ 0 (.bool na);have e:Blk ((w.setCell ⟨g,0,none⟩ (.bool na)).setCell ⟨g,1,none⟩ (.slice A n c)) g t #[.bool na,.slice A n c,.bool b0,.slice B0 m0 d0]:=o.set_ 1 (.slice A n c);have f:Blk (((w.setCell ⟨g,0,none⟩ (.bool na)).setCell ⟨g,1,none⟩ (.slice A n c)).setCell ⟨g,2,none⟩ (.bool nb)) g t #[.bool na,.slice A n c,.bool nb,.slice B0 m0 d0]:=e.set_ 2 (.bool nb);have h:Blk ((((w.setCell ⟨g,0,none⟩ (.bool na)).setCell ⟨g,1,none⟩ (.slice A n c)).setCell ⟨g,2,none⟩ (.bool nb)).setCell ⟨g,3,none⟩ (.slice B m d)) g t #[.bool na,.slice A n c,.bool nb,.slice B m d]:=f.set_ 3 (.slice B m d);have k0:Kept (λk=>k=g) w w:=QF _ _;exact⟨_,rfl,h,(((k0.set_ (p:=⟨g,0,none⟩) (.inl rfl) _).set_ (p:=⟨g,1,none⟩) (.inl rfl) _).set_ (p:=⟨g,2,none⟩) (.inl rfl) _).set_ (p:=⟨g,3,none⟩) (.inl rfl) _,by simp⟩
def VarF(w:World)(g:Nat)(q:Rat):Prop:=∃ na A n c nb B m d,Blk w g 32 #[.bool na,.slice A n c,.bool nb,.slice B m d]/\Fr w na A n c nb B m d q
theorem VarF.box{w:World}{g:Nat}{q:Rat}(h:VarF w g q):∃ t cs,Blk w g t cs/\NoLimb cs:=by
 obtain⟨na,A,n,c,nb,B,m,d,h1,-⟩:=h;exact⟨_,_,h1,Zan _ _ _ _ _ _ _ _⟩
theorem VarF.lt{w:World}{g:Nat}{q:Rat}(h:VarF w g q):g<w.heap.size:=by
 obtain⟨na,A,n,c,nb,B,m,d,h1,-⟩:=h;exact h1.lt
theorem VarF.kept{w w':World}{g:Nat}{q:Rat}{G:Nat->Prop}(h:VarF w g q)(hk:Kept G w w')(hg:¬ G g)(hG:∀ k,G k->∃ t cs,Blk w k t cs/\NoLimb cs):VarF w' g q:=by
 obtain⟨na,A,n,c,nb,B,m,d,h1,h2⟩:=h;exact⟨na,A,n,c,nb,B,m,d,hk.blk h1 hg,hk.wd h2.1 hG,hk.wd h2.2 hG⟩
theorem VarF.below{w w':World}{g:Nat}{q:Rat}(h:VarF w g q)(hb:Below w.heap.size w w'):VarF w' g q:=
 h.kept (G:=λ_=>False) (Kept.of_below hb |>.mono (λ_ _ h=>h)) (λh=>h) (λ_ h=>h.elim)
theorem Fr.keptV{w w':World}{na:Bool}{A:Option Addr}{n c:Nat}{nb:Bool}{B:Option Addr}{m d:Nat}{r:Rat}{g:Nat}{t:TypeId}{cs:Array Value}(h:Fr w na A n c nb B m d r)(hk:Kept (λk=>k=g) w w')(hb:Blk w g t cs)(hn:NoLimb cs):Fr w' na A n c nb B m d r:=
 ⟨hk.wd h.1 (λk e=>by cases e;exact⟨_,_,hb,hn⟩),hk.wd h.2 (λk e=>by cases e;exact⟨_,_,hb,hn⟩)⟩
theorem Zwg{z:Int}(h:I64 z):Sm (z:Rat):=by
 unfold I64 at h;refine(SmN.int (i:=3) ?_).mono Gi Gi;have:pw 3=79228162514264337593543950336:=Gd;rw[this];omega
theorem Zg7(z:Int):Rat.divInt z 1=(z:Rat):=Zi3 z
theorem Zqq(A B C:Option Addr)(n c m0 d k e0:Nat)(rs:List RI)(rr ws:List Int)(w:World)(h:MIL w A n c rs)(hr:LimI w B m0 d rr)(hw:LimI w C k e0 ws)(E:Int)(hE:Zdv rs rr ws=E)(h0:E≠0) :
    Calls Tryz.prog 60 #[.slice A n c,.slice B m0 d,.slice C k e0] w λe w'=>e=.returned (.tuple #[.slice none 0 0,.agg #[.bool false,.slice none 0 0,.bool false,.slice none 0 0],.int .i64 E])/\Below w.heap.size w w':=by
 obtain⟨W0,u,f,q0,s0⟩:=Zbp w 32 #[.bool false,.slice none 0 0,.bool false,.slice none 0 0];have t1:decide (E≠0)=true:=Gv h0;have O:(E != 0)=true:=by simpa using h0
 replace h:=Zb (h.below f);replace hr:=Zb (hr.below f);replace hw:=Zb (hw.below f);replace hE:=Zb hE;replace h0:=Zb h0;go_in;go_wp2_with fail;(try rw[u]);refine(Zjs A B C n c m0 d k e0 rs rr ws W0 h.out hr.out hw.out E hE.out).mono ?_;rintro e w1 ⟨rfl,o⟩;have q1:=Zc o q0;obtain⟨c0,c1,c2,c3,f0,f1,f2,f3⟩:=q1.four;go_wp2_with fail;obtain⟨W5,I,J,q2,-,-,s5⟩:=Zm false none 0 0 false none 0 0 (Gs f o) (Qa _) q1;(try rw[I]);obtain⟨r0,r1,r2,r3,-⟩:=q2.four;refine bodyPost_ret (v:=.tuple #[.slice none 0 0,.agg #[.bool false,.slice none 0 0,.bool false,.slice none 0 0],.int .i64 E]) (by simp[results,Tryz.results60,go_sem,r0,r1,r2,r3]) rfl ?_;exact⟨rfl,J⟩
def Zqu(full:Bool)(xs:List Rat)(q:Rat)(w:World)(e:Ending)(w':World):Prop:=
 (full=false/\e=.returned (.tuple #[.slice none 0 0,.agg #[.bool false,.slice none 0 0,.bool false,.slice none 0 0],.int .i64 22])/\Below w.heap.size w w') \/
 (full=true/\∃ A0 n0 c0 na A n c nb B m d,e=.returned (.tuple #[.slice A0 n0 c0,.agg #[.bool na,.slice A n c,.bool nb,.slice B m d],.int .i64 0])/\Below w.heap.size w w'/\FL w' A0 n0 c0 xs/\Fr w' na A n c nb B m d q)
theorem Ic{G:Prop}(h:G:=by
 unfold Zbz;rw[List.getElem?_map,List.getElem?_range hi,Option.map_some,Option.getD_some,Zfa]):G:=h
theorem Zlz(A B C:Option Addr)(n c d e0 m:Nat)(rs:List RI)(rr ws:List Int)(w:World)(h:MIL w A n c rs)(hr:LimI w B n d rr)(hw:LimI w C n e0 ws)(hE:Zdv rs rr ws=0)(hm:n0I rs=m)(hn0:0<n)(hm0:0<m)(hm9:m<=12)
    (b8:okZ (pw 200) (m+1) m 0 0 (Zab (Zbz rs rr ws n m)) 1) (hfin:Zpc (Zbz rs rr ws n m) m (m+1)) (d0:(Zaw m 0 0 (Zab (Zbz rs rr ws n m)) false 1).2.1<=m)
    (X:Nat->Nat->Rat) (hX:(Zaw m 0 0 (Zab (Zbz rs rr ws n m)) false 1).2.1=m->Zid (λi j=>(Zag (Zaw m 0 0 (Zab (Zbz rs rr ws n m)) false 1).1 i j:Rat)) X m (m+1))
    (full:Bool) (E:full=decide ((Zaw m 0 0 (Zab (Zbz rs rr ws n m)) false 1).2.1=m)) (hP:full=true->Zns rs rr ws (λj=>X j m) n m) :
    Calls Tryz.prog 60 #[.slice A n c,.slice B n d,.slice C n e0] w (Zqu full ((Qj m).map λj=>X j m) (Zcr rs rr ws (λj=>X j m) m n) w):=by
 have hmx:=Gt;obtain⟨f1,f2,f3,f4,f5,f6,f7,f8⟩:=Zem hE;have hl:=h.1;have b7:∀ r ∈ rs,r.n=m:=λr hr=>by rw[(f8 r hr).1,hm]
 have j6:rr.length=n:=by rw[f5,hl]
 have k1:ws.length=n:=by rw[f4,hl]
 rw[hl]at f1
 have c6:∀ i,i<m->((Zbz rs rr ws n m)[i]?.getD []).length=m+1:=λi hi=>by
  exact Ic
 obtain⟨Q,hQ⟩:=Gz (Zbz rs rr ws n m);rw[hQ]at c6 b8 hfin d0 hX E;obtain⟨W0,m4,c9,q0,s0⟩:=Zbp w 32 #[.bool false,.slice none 0 0,.bool false,.slice none 0 0];obtain⟨gs,a1⟩:=Gz w.heap.size;rw[a1]at q0;have n8:=Zb h;have n1:=Zb hr;have m1:=Zb hw;replace h:=Zb (h.below c9);replace hr:=Zb (hr.below c9);replace hw:=Zb (hw.below c9);replace hE:=Zb hE;replace c6:=Zb c6;replace hQ:=Zb hQ;replace b8:=Zb b8;replace hfin:=Zb hfin;replace d0:=Zb d0;replace hX:=Zb hX;replace E:=Zb E;replace hP:=Zb hP;replace b7:=Zb b7;replace hl:=Zb hl;replace j6:=Zb j6;replace k1:=Zb k1;replace q0:=Zb q0;clear f2 f3 f4 f5 f6 f7 f8 hm;go_in;go_wp2_with fail;(try rw[m4]);(try rw[a1]);rw[a1]at c9 s0;replace a1:=Zb a1;refine(Zjs A B C n c n d n e0 rs rr ws W0 h.out hr.out hw.out 0 hE.out).mono ?_;rintro e w1 ⟨rfl,J⟩;replace q0:=Gm J q0;clear m4;go_wp2_with fail;refine(Zqn A B C n c d e0 m rs rr ws w1 (h.out.below J) (hr.out.below J) (hw.out.below J) hn0 Gk hm0 Gk b7.out).mono ?_;rintro e w2 ⟨go,r6,rfl,a5,g7,base,p4,o2⟩;have c8:=o2.mfl (c:=m) Gk (by unfold maxLen;omega);rw[g7,hQ.out]at c8;have d9:=Gs J a5;replace q0:=Gm a5 q0;replace c8:=Zb c8;clear o2 p4 J a5 g7;go_wp2_with fail;by_cases h1:(Zaw m 0 0 (Zab Q) false 1).2.1<m
 ·have hf:full=false:=by
    have:=E.out;rw[this];exact Gu Gk
  subst hf;replace h1:=Zb h1;refine(Zvn (some ⟨go,0,none⟩) m m (m+1) Q w2 c8.out hm0 Gk Gk Gk c6.out b8.out hfin.out h1.out).mono ?_;rintro e w3 ⟨rfl,I⟩;have p5:=Gs d9 I;have q3:=Zc I q0.out;obtain⟨c0,c1,c2,c3,z0,z1,z2,z3⟩:=q3.four;go_wp2_with fail;have l9:Below gs w w3:=c9.trans (p5.mono Gk);obtain⟨W5,h3,b9,q5,-,-,s5⟩:=Zm false none 0 0 false none 0 0 l9 (Qa _) q3;(try rw[h3]);obtain⟨r0,r1,r2,r3,-⟩:=q5.four;refine bodyPost_ret (v:=.tuple #[.slice none 0 0,.agg #[.bool false,.slice none 0 0,.bool false,.slice none 0 0],.int .i64 22]) (by simp[results,Tryz.results60,go_sem,r0,r1,r2,r3]) rfl ?_;exact .inl ⟨rfl,rfl,by rw[a1.out];exact b9⟩
 have h6:Hid ((Zaw m 0 0 (Zab Q) false 1).2.1=m):=Zb (by have:=d0.out;omega)
 have hf:full=true:=by
  have:=E.out;rw[this];exact Gv h6.out
 subst hf;replace hP:=Zb (hP.out rfl);clear h1;refine(Zu7 (some ⟨go,0,none⟩) m m (m+1) Q w2 c8.out hm0 Gk Gk Gk c6.out b8.out hfin.out h6.out X (hX.out h6.out)).mono ?_;rintro e w5 ⟨gO,L5,rfl,b1,p3,h8,e6,-⟩;have j4:L5.length=m:=by rw[<- QD (f:=RF.q),e6];unfold Zj0;simp
 have k6:(L5.map RF.q).flatten=(Qj m).map λj=>X j m:=by
  rw[e6];unfold Zj0;rw[show m+1-m=1 by omega]
  have:∀ l:List Nat,(l.map λi=>(Qj 1).map λc=>X i (m+c)).flatten=l.map λj=>X j m:=by
   intro l
   induction l with
   | nil=>rfl
   | cons x l ih=>rw[List.map_cons,List.flatten_cons,ih];rfl
  exact this _
 have n2:(L5.map RF.q).flatten.length=m:=by rw[k6];simp
 have b9:=Gs d9 b1;replace q0:=Gm b1 q0;replace h8:=Zb h8;clear c8;go_wp2_with fail;refine(Zt7 gO m m L5 w5 h8.out j4 Gk (Qa _) (by unfold maxLen;omega) Gk Gk).mono ?_;rintro e w6 ⟨v6,rfl,a3,i7⟩;rw[k6]at i7;have k9:=Gs b9 a3;replace q0:=Gm a3 q0;have s3:gs<w5.heap.size:=by have:=b9.size;omega
 obtain⟨xs,hxs⟩:∃ xs,(Qj m).map (λj=>X j m)=xs:=⟨_,rfl⟩;rw[hxs]at i7
 obtain⟨gx,cx,rfl,r9,q2,m0,i8⟩:∃ g c,v6=.slice (some ⟨g,0,none⟩) m c/\gs<g/\m<=c/\c<=maxLen/\FOwn 32 w6 g xs:=by
  have a9:xs.length=m:=by rw[<- hxs];simp
  rcases i7.fown with ⟨-,e⟩|⟨g,c,e1,e2,e3,e4,e5⟩;rw[e]at a9;simp at a9;omega;rw[a9]at e1 e3;exact⟨g,c,e1,by omega,e3,e4,e5⟩
 replace i8:=Zb i8;replace hxs:=Zb hxs;clear i7 h8 k6 n2 e6 j4 b1 a3 p3 h6 d0 hX hfin b8 c6 hQ E;go_wp2_with fail;refine(Zji 0 1 w6 Gi Gi Gi Gi).mono ?_;rintro e w7 ⟨i9,n7,A7,k7,c7,m7,B7,j7,d7,rfl,a2⟩;rw[Zg7]at a2;have q7:=Zc i9 q0.out;have h5:=Gs k9 i9;have j3:=i8.out.below i9;obtain⟨c0,c1,c2,c3,z0,z1,z2,z3⟩:=q7.four;clear i8 q0 i9;go_wp2_with fail;obtain⟨W8,m8,q8,k5,s8⟩:=Zec n7 A7 k7 c7 m7 B7 j7 d7 q7;(try rw[m8]);have a8:=a2.keptV k5 q7 (Zan _ _ _ _ _ _ _ _);have d5:=Zb (j3.keptG k5 Gk (λk e=>by cases e;exact⟨_,_,q7,Zan _ _ _ _ _ _ _ _⟩));have g6:VarF W8 gs (Zcr rs rr ws (λj=>X j m) m 0):=⟨_,_,_,_,_,_,_,_,q8,a8⟩;have s2:Hid (Below W0.heap.size W0 w7/\gs+1=W0.heap.size):=Zb ⟨h5,by omega⟩;have j2:Hid (Below gs w W8):=Zb (c9.trans ((h5.mono Gk).trans (k5.to_below (λk e=>by omega) (by have:=h5.size;omega))));replace g6:=Zb g6;clear a2 a8 q7 q8 j3 m8 c0 c1 c2 c3 z0 z1 z2 z3 h5 k9 b9 d9;unfold maxLen at m0
 go_loopg [53] n (λk iv wr=>∃ i:Nat,i+k=n/\iv=.int .i64 i/\VarF wr gs (Zcr rs rr ws (λj=>X j m) m i)/\Kept (λg=>g=gs) W8 wr)
 case atStart=>exact⟨0,by omega,rfl,g6.out,QF _ _⟩
 case round =>
  obtain⟨i,r8,rfl,f0,h9⟩:=hrel
  have e8:Below w.heap.size w wr:=by
   rw[a1.out];exact j2.out.trans (h9.to_below (λk e=>by omega) (by have:=j2.out.size;have:=a1.out;omega))
  cases gk with
  | zero =>
   obtain rfl:n=i:=Gk;have t2:decide ((n:Int)<(n:Int))=false:=Gh;obtain⟨sn,sA,sk,sc,sm,sB,sj,sd,qs,hs⟩:=f0;obtain⟨c0,c1,c2,c3,z0,z1,z2,z3⟩:=qs.four;have hO:=Zb (d5.out.keptG h9 Gk (λk e=>by cases e;exact g6.out.box));have p0:=Zb hs;clear hs n8 n1 m1 h hr hw d5;go_wp2_with fail;refine Zad [] (λwx=>wx.cell? ⟨gs,0,none⟩=some (.bool sn)/\wx.cell? ⟨gs,1,none⟩=some (.slice sA sk sc)/\wx.cell? ⟨gs,2,none⟩=some (.bool sm)/\wx.cell? ⟨gs,3,none⟩=some (.slice sB sj sd)) hmx ⟨c0,c1,c2,c3⟩ (λ_=>?_);refine Zfm 1 [0] rfl Gj ⟨c0,c1,c2,c3⟩ ?_
   (refine tkA ?_;try simp only[Qf,Zf6,Zfl,Zfx,Gr,Gq,Gp])
   refine tk0 ?_;refine Zin 1 [1] rfl Gj ⟨c0,c1,c2,c3⟩ ?_
   (refine tkA ?_;try simp only[Qf,Zf6,Zfl,Zfx,Gr,Gq,Gp])
   refine tk0 ?_;refine Zfm 1 [2] rfl Gj ⟨c0,c1,c2,c3⟩ ?_
   (refine tkA ?_;try simp only[Qf,Zf6,Zfl,Zfx,Gr,Gq,Gp])
   refine tk0 ?_;obtain⟨W9,g8,q9,b0,s9⟩:=Zec sn sA sk sc sm sB sj sd (w:=wr) qs;have h7:=q9.four;have l5:=QG h7.1 (QG h7.2.1 (QG h7.2.2.1 h7.2.2.2.1));refine wpAnyL_o 3 λK hK=>?_;go_simp;(try rw[g8]);refine hK.out _ _ (λ_=>l5) ?_;clear hK K
   try simp only[Qf,Zf6,Zfl,Zfx]
   refine Zfm 1 [4] rfl Gj l5 ?_
   (refine tkA ?_;try simp only[Qf,Zf6,Zfl,Zfx,Gr,Gq,Gp])
   refine tk0 ?_;refine wpAnyL_fin ?_;obtain⟨r0,r1,r2,r3,-⟩:W9.drew.cell? ⟨gs,0,none⟩=some (.bool sn)/\W9.drew.cell? ⟨gs,1,none⟩=some (.slice sA sk sc)/\W9.drew.cell? ⟨gs,2,none⟩=some (.bool sm)/\W9.drew.cell? ⟨gs,3,none⟩=some (.slice sB sj sd)/\True:=⟨q9.four.1,q9.four.2.1,q9.four.2.2.1,q9.four.2.2.2.1,trivial⟩;have l7:Below w.heap.size w W9.drew:=Zg (e8.trans (b0.to_below (λk e=>by rw[e,a1.out];exact Qa _) e8.size)) 1;have q1:=Fr.drew (p0.out.keptV b0 qs (Zan _ _ _ _ _ _ _ _));have n5:=FOwn.keptG hO.out b0 (show ¬ gx=gs by omega) (λk e=>by cases e;exact⟨_,_,qs,Zan _ _ _ _ _ _ _ _⟩);have o5:FOwn 32 W9.drew gx xs:=n5;clear g8;go_wp2_with fail;refine bodyPost_ret (v:=.tuple #[.slice (some ⟨gx,0,none⟩) m cx,.agg #[.bool sn,.slice sA sk sc,.bool sm,.slice sB sj sd],.int .i64 0]) (by simp[results,Tryz.results60,go_sem,r0,r1,r2,r3]) rfl ?_;have a9:xs.length=m:=by rw[<- hxs.out];simp
   exact .inr ⟨rfl,_,_,_,_,_,_,_,_,_,_,_,rfl,l7,by
    have:=o5.fl (c:=cx) Gk (by unfold maxLen;omega);rw[a9,<- hxs.out]at this;exact this,q1⟩
  | succ k' =>
   obtain rfl:k'=n-(i+1):=Gk;have a0:i<n:=Gk;have t2:decide ((i:Int)<(n:Int))=true:=Gv Gk;have bi:(i:Int)<(n:Int):=Gk;obtain⟨gA,oA,r,rfl,n4,k0,hL⟩:=(n8.out.below e8).at_ a0;have l4:=b7.out r (Qt n4);have g7:∀ t,r.l[t]?.getD 0=Z7 rs t i:=λt=>(Zr9 n4).symm;have k4:=n1.out.below e8;have l1:=m1.out.below e8;have n6:=Zf1 k4.2.2.2.1 i;have k3:=Zf1 l1.2.2.2.1 i;obtain⟨gB,oB,rfl,o0⟩:=k4.2.2.2.2 hn0;obtain⟨gC,oC,rfl,l8⟩:=l1.2.2.2.2 hn0;have kB:=o0 i a0;have kC:=l8 i a0;rw[l4]at hL;have o8:Hid (∀ t,I64 (Z7 rs t i)):=Zb (λt=>by rw[<- g7 t];exact Zf1 hL.2.2.2.1 t);obtain⟨gr,orr,p7,j1⟩:=hL.2.2.2.2 hm0;rw[l4,p7]at k0;have p1:Hid (∀ t,t<m->wr.cell? ⟨gr,orr+t,none⟩=some (.int .i64 (Z7 rs t i))):=Zb (λt ht=>by rw[<- g7 t];exact j1 t ht);have o6:=hL.2.2.1;unfold maxLen at o6;have p6:=Zb (d5.out.keptG h9 Gk (λk e=>by cases e;exact g6.out.box));replace f0:=Zb f0;clear j1 hL o0 l8 k4 l1;obtain⟨wo,p9⟩:∃ x:World,x=wr:=⟨_,rfl⟩;subst p9;change (wo.cell? _=some (.int .i64 (Zau rr i)))at kB;change (wo.cell? _=some (.int .i64 (Zau ws i)))at kC;change I64 (Zau rr i)at n6;change I64 (Zau ws i)at k3
   have j8:=n6;unfold I64 at j8;go_wp2_with fail;refine(Zji (Zau rr i) 1 wo Gk Gk Gi Gi).mono ?_;rintro e w2 ⟨a5,pn,pA,pk,pc,pm,pB,pj,pd,rfl,k8⟩;rw[Zg7]at k8;obtain⟨gd,h0⟩:=Gz w2.heap.size;obtain⟨V1,n0,qd,d6⟩:=Zz (w:=w2) 32 #[.bool pn,.slice pA pk pc,.bool pm,.slice pB pj pd];rw[h0]at qd;have f9:VarF V1 gd (Zbs rs rr (λj=>X j m) 0 i):=⟨_,_,_,_,_,_,_,_,qd,by rw[Zs8];exact k8.below d6⟩;have J:Below wo.heap.size wo V1:=Gs a5 d6;have r5:wo.heap.size<=gd:=by rw[<- h0];exact a5.size
   have r4:gs<wo.heap.size:=f0.out.lt;replace f9:=Zb f9;replace J:=Zb J;clear k8 qd a5 d6 j8;go_wp2_with fail;(try rw[h0]);(try rw[n0]);clear n0 h0
   go_loopg [68] m (λk kv wr=>∃ t:Nat,t+k=m/\kv=.int .i64 t/\VarF wr gd (Zbs rs rr (λj=>X j m) t i)/\Kept (λg=>g=gd) V1 wr)
   case atStart=>exact⟨0,by omega,rfl,f9.out,QF _ _⟩
   case round =>
    obtain⟨t,r7,rfl,o9,g4⟩:=hrel;have a4:Below wo.heap.size wo wr:=J.out.trans (g4.to_below (λk e=>by omega) (by have:=J.out.size;omega));obtain⟨dn,dA,dk,dc,dm,dB,dj,dd,qd,hd⟩:=o9;cases gk with
    | succ k2 =>
     obtain rfl:k2=m-(t+1):=Gk;have i6:t<m:=Gk;have t3:decide ((t:Int)<(m:Int))=true:=Gv Gk;have b3:(t:Int)<(m:Int):=Gk;have kc:=Za a4 (p1.out t i6);have ha:=o8.out t;have p2:=ha;unfold I64 at p2;have p8:Hid (xs[t]?.getD 0=X t m):=Zb (by rw[<- hxs.out,Qn,Qx i6];rfl);replace qd:=Zb qd;replace hd:=Zb hd;go_wp2_with fail;refine(Zji (Z7 rs t i) 1 wr Gk Gk Gi Gi).mono ?_;rintro e w3 ⟨I,fn,fA,fk,fc,fm,fB,fj,fd,rfl,b2⟩;rw[Zg7]at b2;obtain⟨gf,b4⟩:=Gz w3.heap.size;obtain⟨V2,e9,qf,U⟩:=Zz (w:=w3) 32 #[.bool fn,.slice fA fk fc,.bool fm,.slice fB fj fd];rw[b4]at qf;have u:Below wr.heap.size wr V2:=Gs I U;have d8:=Zb (b2.below U);have a9:xs.length=m:=by rw[<- hxs.out];simp
     have o1:=p6.out.below (Gs a4 u);obtain⟨xn,xA,xk,xc,xm,xB,xj,xd,x0,x1,x2,x3,a6⟩:=o1.at_ (i:=t) Gk;rw[p8.out]at a6;have l6:gd<gf:=by have:=qd.out.lt;have:=I.size;omega
     have q4:V1.heap.size<=gf:=by have:=g4.size;have:=I.size;omega
     replace a6:=Zb a6;obtain⟨v0,v1,v2,v3,g0,g1,g2,g3⟩:=qf.four;replace qf:=Zb qf;clear b2 o1 a9;go_wp2_with fail;(try rw[b4]);(try rw[e9]);clear e9 b4;refine Zad [9] (λwx=>wx.cell? ⟨gf,0,none⟩=some (.bool fn)/\wx.cell? ⟨gf,1,none⟩=some (.slice fA fk fc)/\wx.cell? ⟨gf,2,none⟩=some (.bool fm)/\wx.cell? ⟨gf,3,none⟩=some (.slice fB fj fd)/\wx.cell? ⟨gx,t*4,none⟩=some (.bool xn)/\wx.cell? ⟨gx,t*4+1,none⟩=some (.slice xA xk xc)/\wx.cell? ⟨gx,t*4+2,none⟩=some (.bool xm)/\wx.cell? ⟨gx,t*4+3,none⟩=some (.slice xB xj xd)) hmx ⟨v0,v1,v2,v3,x0,x1,x2,x3⟩ (λ_=>?_);refine Zin 1 [0] rfl Gj ⟨v0,v1,v2,v3,x0,x1,x2,x3⟩ ?_
     (refine tkA ?_;try simp only[Qf,Zf6,Zfl,Zfx,Gr,Gq,Gp])
     refine tk0 ?_;refine Zfm 3 [1,2,3] rfl Gj ⟨v0,v1,v2,v3,x0,x1,x2,x3⟩ ?_
     iterate 3 (refine tkA ?_;try simp only[Qf,Zf6,Zfl,Zfx,Gr,Gq,Gp])
     refine tk0 ?_;refine Zin 1 [4] rfl Gj ⟨v0,v1,v2,v3,x0,x1,x2,x3⟩ ?_
     (refine tkA ?_;try simp only[Qf,Zf6,Zfl,Zfx,Gr,Gq,Gp])
     refine tk0 ?_;refine wpAnyL_o 5 λK hK=>?_;go_simp;refine(Zit fn fm xn xm fA fB xA xB fk fc fj fd xk xc xj xd _ _ V2.drew d8.out a6.out (Zwg ha) (hP.out.xk t i6)).mono ?_;rintro e w4 ⟨o,yn,yA,yk,yc,ym,yB,yj,yd,rfl,a2⟩;replace o:=Zq o;refine hK.out _ _ (λ_=>⟨Za o v0,Za o v1,Za o v2,Za o v3,Za o x0,Za o x1,Za o x2,Za o x3⟩) ?_;clear hK K
     try simp only[Qf,Zf6,Zfl,Zfx]
     refine Zfm 3 [6,7,8] rfl Gj ⟨Za o v0,Za o v1,Za o v2,Za o v3,Za o x0,Za o x1,Za o x2,Za o x3⟩ ?_
     iterate 3 (refine tkA ?_;try simp only[Qf,Zf6,Zfl,Zfx,Gr,Gq,Gp])
     refine tk0 ?_;have g9:=Zc o qf.out;obtain⟨i0,i1,i2,i3,e0,e1,e2,e3⟩:=g9.four;obtain⟨Z4,m6,qz,e7,sz⟩:=Zec yn yA yk yc ym yB yj yd g9;refine Zr (i:=9) rfl Gj Gj (λK hK=>?_);go_simp;(try rw[m6]);refine hK.out _ _ ?_;clear hK K
     try simp only[Qf,Zf6,Zfl,Zfx]
     refine wpAnyL_fin ?_;have a8:=Zb (a2.keptV e7 g9 (Zan _ _ _ _ _ _ _ _));have b5:Below wr.heap.size wr w4:=Gs u o;have O:=e7.blk (Zc b5 qd.out) (show ¬ gd=gf by omega);have o7:=Zb ((hd.out.below b5).keptV e7 g9 (Zan _ _ _ _ _ _ _ _));have o4:Hid (Kept (λg=>g=gd) V1 Z4):=Zb ((g4.below b5).and e7 (λk hk e=>by omega));clear m6 a2 g9 e7 b5 u o v0 v1 v2 v3 g0 g1 g2 g3 i0 i1 i2 i3 e0 e1 e2 e3 x0 x1 x2 x3 qd hd d8 a6 qf g4;obtain⟨v0,v1,v2,v3,-⟩:=qz.four;obtain⟨u0,u1,u2,u3,-⟩:=O.four;replace O:=Zb O;go_wp2_with fail;refine(Zoj dn dm yn ym dA dB yA yB dk dc dj dd yk yc yj yd _ _ Z4 o7.out a8.out (hP.out.res i t a0 Gk) (hP.out.f i t a0 i6)).mono ?_;rintro e w5 ⟨b1,zn,zA,zk,zc,zm,zB,zj,zd,rfl,g5⟩;have i5:=Zc b1 O.out;obtain⟨i0,i1,i2,i3,e0,e1,e2,e3⟩:=i5.four;obtain⟨W6,n3,q6,l3,s6⟩:=Zec zn zA zk zc zm zB zj zd i5
     have hfin:VarF W6 gd (Zbs rs rr (λj=>X j m) (t+1) i):=⟨_,_,_,_,_,_,_,_,q6,by
      rw[Zs3];exact g5.keptV l3 i5 (Zan _ _ _ _ _ _ _ _)⟩
     have a7:Hid (Kept (λg=>g=gd) V1 W6):=Zb ((o4.out.below b1).trans l3);replace hfin:=Zb hfin;clear i5 g5 q6 l3 u0 u1 u2 u3 v0 v1 v2 v3 qz b1;go_wp2_with fail;(try rw[n3]);clear n3
     go_roundg (m-(t+1))
     case measure=>omega
     case rel=>exact⟨t+1,by omega,by go_num,hfin.out,a7.out⟩
    | zero =>
     obtain rfl:m=t:=Gk;have t3:decide ((m:Int)<(m:Int))=false:=Gh;have s1:=Za a4 kC;have m9:=k3;unfold I64 at m9;replace qd:=Zb qd;replace hd:=Zb hd;go_wp2_with fail;refine(Zji (Zau ws i) 1 wr Gk Gk Gi Gi).mono ?_;rintro e w3 ⟨I,fn,fA,fk,fc,fm,fB,fj,fd,rfl,b2⟩;rw[Zg7]at b2;obtain⟨gf,b4⟩:=Gz w3.heap.size;obtain⟨V2,e9,qf,U⟩:=Zz (w:=w3) 32 #[.bool fn,.slice fA fk fc,.bool fm,.slice fB fj fd];rw[b4]at qf;have u:Below wr.heap.size wr V2:=Gs I U;have d8:=Zb (b2.below U);have l6:gd<gf:=by have:=qd.out.lt;have:=I.size;omega
     have d4:=Zc u qd.out;have l0:=Zb (hd.out.below u);have h2:VarF V2 gs (Zcr rs rr ws (λj=>X j m) m i):=f0.out.below (Gs a4 u);have c4:Below wo.heap.size wo V2:=Gs a4 u;obtain⟨v0,v1,v2,v3,-⟩:=qf.four;obtain⟨u0,u1,u2,u3,-⟩:=d4.four;replace qf:=Zb qf;replace d4:=Zb d4;replace h2:=Zb h2;replace c4:=Zb c4;clear b2 u qd hd I U a4 g4;go_wp2_with fail;(try rw[b4]);(try rw[e9]);clear e9 b4;refine(Zit dn dm dn dm dA dB dA dB dk dc dj dd dk dc dj dd _ _ V2 l0.out l0.out (hP.out.res i m a0 (Qa _)) (hP.out.res i m a0 (Qa _))).mono ?_;rintro e w4 ⟨o,yn,yA,yk,yc,ym,yB,yj,yd,rfl,m2⟩;have O:=Zc o d4.out;obtain⟨i0,i1,i2,i3,e0,e1,e2,e3⟩:=O.four;obtain⟨W5,h3,q5,c5,s5⟩:=Zec yn yA yk yc ym yB yj yd O;have m5:∀ k,k=gd->∃ t cs,Blk w4 k t cs/\NoLimb cs:=λk e=>by cases e;exact⟨_,_,O,Zan _ _ _ _ _ _ _ _⟩
     have a6:=Zb (m2.keptV c5 O (Zan _ _ _ _ _ _ _ _));have m3:=Zb ((d8.out.below o).keptV c5 O (Zan _ _ _ _ _ _ _ _));have i4:=c5.blk (Zc o qf.out) (show ¬ gf=gd by omega);have j5:=Zb ((h2.out.below o).kept c5 (show ¬ gs=gd by omega) m5);have Y:Below wo.heap.size wo W5:=(Gs c4.out o).trans (c5.to_below (λk e=>by omega) (by have:=c4.out.size;have:=o.size;omega));replace Y:=Zb Y;clear m2 m5 c5 O o u0 u1 u2 u3 v0 v1 v2 v3 l0 d4 h2 c4 d8 qf;obtain⟨v0,v1,v2,v3,-⟩:=i4.four;obtain⟨u0,u1,u2,u3,-⟩:=q5.four;replace q5:=Zb q5;replace i4:=Zb i4;go_wp2_with fail;(try rw[h3]);clear h3 i0 i1 i2 i3 e0 e1 e2 e3;refine(Zit yn ym fn fm yA yB fA fB yk yc yj yd fk fc fj fd _ _ W5 a6.out m3.out (hP.out.sq i a0) (Zwg k3)).mono ?_;rintro e w6 ⟨a3,zn,zA,zk,zc,zm,zB,zj,zd,rfl,a2⟩;have d3:=Zc a3 q5.out;obtain⟨i0,i1,i2,i3,e0,e1,e2,e3⟩:=d3.four;obtain⟨W7,n9,q7,h4,s7⟩:=Zec zn zA zk zc zm zB zj zd d3;have a8:=Zb (a2.keptV h4 d3 (Zan _ _ _ _ _ _ _ _));have o3:=(j5.out.below a3).kept h4 (show ¬ gs=gd by omega) (λk e=>by cases e;exact⟨_,_,d3,Zan _ _ _ _ _ _ _ _⟩);have b6:Below wo.heap.size wo W7:=(Gs Y.out a3).trans (h4.to_below (λk e=>by omega) (by have:=Y.out.size;have:=a3.size;omega));obtain⟨sn,sA,sk,sc,sm,sB,sj,sd,qs,hs⟩:=o3;replace hs:=Zb hs;replace b6:=Zb b6;clear a2 h4 d3 a3 u0 u1 u2 u3 v0 v1 v2 v3 a6 m3 i4 q5 j5 Y
     obtain⟨v0,v1,v2,v3,-⟩:=q7.four;obtain⟨u0,u1,u2,u3,-⟩:=qs.four;replace q7:=Zb q7;replace qs:=Zb qs;go_wp2_with fail;(try rw[n9]);clear n9 i0 i1 i2 i3 e0 e1 e2 e3;refine(Zsi sn sm zn zm sA sB zA zB sk sc sj sd zk zc zj zd _ _ W7 hs.out a8.out (hP.out.sum i Gk) (hP.out.wsq i a0)).mono ?_;rintro e w8 ⟨l2,an,aA,ak,ac,am,aB,aj,ad,rfl,g5⟩;have j0:=Zc l2 qs.out;obtain⟨i0,i1,i2,i3,e0,e1,e2,e3⟩:=j0.four;obtain⟨W9,g8,q9,b0,s9⟩:=Zec an aA ak ac am aB aj ad j0;have hfin:VarF W9 gs (Zcr rs rr ws (λj=>X j m) m (i+1)):=⟨_,_,_,_,_,_,_,_,q9,g5.keptV b0 j0 (Zan _ _ _ _ _ _ _ _)⟩;have j9:=Gs b6.out l2;have a7:Hid (Kept (λg=>g=gs) W8 W9):=Zb ((h9.below j9).trans b0);replace hfin:=Zb hfin;clear j0 g5 q9 b0 u0 u1 u2 u3 v0 v1 v2 v3 l2 j9 hs a8;go_wp2_with fail;(try rw[g8]);clear g8
     go_roundg (n-(i+1))
     case measure=>omega
     case rel=>exact⟨i+1,by omega,by go_num,hfin.out,a7.out⟩
theorem b40_out{least x:Int}(h:Zks least x=false)(h0:-1099511627776<=least):B40 x:=by
 unfold Zks at h;simp only[Qu,decide_eq_false_iff_not]at h;unfold B40;omega
theorem Zkm{least:Int}{l:List Int}(h:Zfw least l=false)(h0:-1099511627776<=least)(i:Nat):B40 (l[i]?.getD 0):=by
 unfold Zfw at h;rw[Qo]at h;by_cases hi:i<l.length
 ·rw[Qb hi]
  exact b40_out (by simpa using h _ (Qi hi)) h0
 rw[Qe Gk];show (0:Int).natAbs<=_;decide
theorem Zoo{rs:List RI}{rr ws:List Int}(h:Zdv rs rr ws=0):(∀ r k,B40 (Z7 rs k r))/\(∀ r,B40 (Zau rr r))/\∀ r,B40 (Zau ws r):=by
 obtain⟨f1,f2,f3,f4,f5,f6,f7,f8⟩:=Zem h;refine⟨λr k=>?_,λr=>Zkm f7 Gi r,λr=>Zkm f6 Gi r⟩;unfold Z7;by_cases hr:r<rs.length
 ·rw[Qb hr]
  exact Zkm (f8 _ (Qi hr)).2 Gi k
 rw[Qe (l:=rs) (i:=r) Gk];show (0:Int).natAbs<=_;decide
def Zeh(rs:List RI)(ws:List Int)(n:Nat):Nat->Nat->Rat:=λi j=>((Zb5 ws (Z7 rs i) (Z7 rs j) n:Int):Rat)
section
variable{rs:List RI}{rr ws:List Int}{n m:Nat}
theorem Zfp{i j:Nat}(hi:i<m):Zv (Zbz rs rr ws n m) i j=if j<m then Zeh rs ws n i j else if j=m then ((Zb5 ws (Z7 rs i) (Zau rr) n:Int):Rat)else 0:=by
 unfold Zv Zbz;rw[Qn,Qx hi,Qg,QA];by_cases hj:j<m;rw[Gx hj,Zqb hj];rfl;rw[Gw hj];by_cases hjm:j=m;subst hjm;rw[Gx rfl,Zm9];rfl;rw[Gw hjm,Qe (by rw[Zfa];omega)];rfl
theorem Zni:(Zbz rs rr ws n m).length=m:=by unfold Zbz;simp
theorem Zuk{i:Nat}(hi:i<m):((Zbz rs rr ws n m)[i]?.getD []).length=m+1:=by
 exact Ic
theorem Ztp(hn:n<=200)(hE:Zdv rs rr ws=0)(i j:Nat):BndQ (pw 4) (Zv (Zbz rs rr ws n m) i j):=by
 obtain⟨b1,b2,b3⟩:=Zoo hE;by_cases hi:i<m
 ·rw[Zfp hi]
  by_cases hj:j<m;rw[Gx hj];exact⟨_,rfl,Zgo hn λr _=>⟨b3 r,b1 r i,b1 r j⟩⟩;rw[Gw hj];by_cases hjm:j=m;rw[Gx hjm];exact⟨_,rfl,Zgo hn λr _=>⟨b3 r,b1 r i,b2 r⟩⟩;rw[Gw hjm];exact BndQ.zero
 unfold Zv;rw[Qe (l:=Zbz rs rr ws n m) (by rw[Zni];omega)];exact BndQ.zero
theorem BndQ.den{B:Nat}{q:Rat}(h:BndQ B q):q.den=1:=by
 obtain⟨z,rfl,-⟩:=h;exact Rat.den_intCast z
theorem BndQ.num{B:Nat}{q:Rat}(h:BndQ B q):q.num.natAbs<=B:=by
 obtain⟨z,rfl,hz⟩:=h;rw[Rat.num_intCast];exact hz
end
theorem Zoa{B:Nat}{R:List (List Rat)}(h:∀ i j,BndQ B (Zv R i j))(i k:Nat):Za4 (R[i]?.getD []) k=1:=by
 have h1:=Zu1 (R[i]?.getD []) (D:=1) (λj=>by
  have:=(h i j).den;unfold Zv at this;rw[this];exact Qa _) k
 have h2:=Zd0 (R[i]?.getD []) k;rw[Nat.one_pow]at h1;omega
theorem Zuo{B:Nat}{R:List (List Rat)}(h:∀ i j,BndQ B (Zv R i j))(i j:Nat):(Zag (Zab R) i j).natAbs<=B:=by
 have h1:=Zh2 R i j;obtain⟨z,hz,hb⟩:=h i j;have hd:Zc3 R i=1:=Zoa h i _;rw[hd,hz]at h1
 have h2:((Zag (Zab R) i j:Int):Rat)=(z:Rat):=by
  rw[h1];have:((1:Nat):Rat)=1:=rfl;rw[this];grind
 rw[Rat.intCast_inj.1 h2];exact hb
theorem Zok{b n m:Nat}{R:List (List Rat)}(h:∀ i j,BndQ (pw b) (Zv R i j))(hl:R.length=n)(hn:n<=900)(hrow:∀ i,i<n->(R[i]?.getD []).length=m)(hnm:n<=m)(h1:(b+1)*n<189)(hb:b<900) :
    okZ (pw 200) m n 0 0 (Zab R) 1/\okR (pw 200) (pw 200) m n 0 0 R/\Zpc R n m/\(Zaw n 0 0 (Zab R) false 1).2.1=(Za9 n 0 0 R false).2.1/\(Za9 n 0 0 R false).2.1<=n /\
    ((Za9 n 0 0 R false).2.1<n->Zas n (Zv R)=0) /\
    ((Za9 n 0 0 R false).2.1=n->Zas n (Zv R)≠0/\∃ X:Nat->Nat->Rat,Zid (Zv (Za9 n 0 0 R false).1) X n m/\Zid (λi j=>(Zag (Zaw n 0 0 (Zab R) false 1).1 i j:Rat)) X n m/\SolQ (Zv R) X n m):=by
 have e:=Zol (b:=b) n hn;obtain⟨B,hB⟩:=Gz (Zbd (pw b) n);rw[hB]at e;obtain⟨d,hd⟩:=Gz ((b+1)*n);rw[hd]at e h1;have bb:B*B<=pw (d+d):=Zcl e e
 have g1:(n+1)*(B*B)<pw 400:=by
  have h6:(n+1)*(B*B)<=pw (1+(d+d)):=Zcl (k_pw Gk) bb;exact Qd h6 (Zjr Gk)
 have g2:B*B*1<pw 400:=by rw[Qq];exact Qd bb (Zjr Gk)
 have g3:B*1<pw 300:=by rw[Qq];exact Qd e (Zjr Gk)
 have hs:=Zr3 (B:=pw b) (S:=1) (Zdt _) (Qa _) R hl hrow (λi hi=>Nat.le_of_eq (Zoa h i _)) (λi j _=>Zuo h i j) hnm (by rw[hB];exact g1) (by rw[hB];exact g2) (by rw[hB];exact g3);rw[hB,Qq]at hs;obtain⟨o1,o2,o3,o4,o5,o6⟩:=hs;have p1:B+1<=pw 200:=Qc (Qh e (Zdt d)) (Qc (Zhy d) (Zbm Gk));have p2:B<pw 200:=p1;refine⟨Zl2 p2 _ _ _ _ _ o1,Zky p2 p2 _ _ _ _ o2,⟨λi t hi ht=>?_,λi j=>?_⟩,o3,o4,o5,λhr=>?_⟩;rw[Zoa h];exact Nat.lt_of_lt_of_le Zdh (Zbm Gi);exact Qd (h i j).num (Zjr Gk);obtain⟨q1,X,q2,q3,q4,-⟩:=o6 hr;exact⟨q1,X,q2,q3,q4⟩
section
variable{rs:List RI}{rr ws:List Int}{n m:Nat}
theorem Zv6(hn:n<=200)(hm:m<=12)(hE:Zdv rs rr ws=0):∃ (full:Bool) (X:Nat->Nat->Rat),
    okZ (pw 200) (m+1) m 0 0 (Zab (Zbz rs rr ws n m)) 1/\okR (pw 200) (pw 200) (m+1) m 0 0 (Zbz rs rr ws n m)/\Zpc (Zbz rs rr ws n m) m (m+1) /\
    (Zaw m 0 0 (Zab (Zbz rs rr ws n m)) false 1).2.1=(Za9 m 0 0 (Zbz rs rr ws n m) false).2.1/\(Za9 m 0 0 (Zbz rs rr ws n m) false).2.1<=m /\
    full=decide ((Za9 m 0 0 (Zbz rs rr ws n m) false).2.1=m) /\
    (full=true ↔ Zas m (Zeh rs ws n)≠0) /\
    (full=true->Zid (Zv (Za9 m 0 0 (Zbz rs rr ws n m) false).1) X m (m+1)/\Zid (λi j=>(Zag (Zaw m 0 0 (Zab (Zbz rs rr ws n m)) false 1).1 i j:Rat)) X m (m+1) /\
     Zdw rs rr ws (λj=>X j m) n m/\Zns rs rr ws (λj=>X j m) n m/\∃ D,0<D/\D<=pw (5*m)/\∀ k,k<m->CD D (pw (5*m)) (X k m)):=by
 obtain⟨b1,b2,b3⟩:=Zoo hE;obtain⟨o1,o2,o3,o4,o5,o6,o7⟩:=Zok (b:=4) (n:=m) (m:=m+1) (R:=Zbz rs rr ws n m) (λi j=>Ztp hn hE i j) Zni Gk (λi hi=>Zuk hi) Gk Gk Gk;have e:Zas m (Zv (Zbz rs rr ws n m))=Zas m (Zeh rs ws n):=Za8 λi j hi hj=>by rw[Zfp hi,Gx hj]
 by_cases hr:(Za9 m 0 0 (Zbz rs rr ws n m) false).2.1=m
 ·obtain⟨x1,X,x2,x3,x4⟩:=o7 hr
  have hN:Zdw rs rr ws (λj=>X j m) n m:=λi hi=>by
   have h6:=x4 i m hi (Qa _) Gk;rw[Zfp hi,Gw (Nat.lt_irrefl _),Gx rfl]at h6;rw[<- h6];exact Zx λj hj=>by rw[Zfp hi,Gx hj];rfl
  obtain⟨D,d1,d2,d3⟩:=Zwe (B:=pw 4) (n:=m) (Q:=Zeh rs ws n) (x:=λj=>X j m) (y:=λi=>((Zb5 ws (Z7 rs i) (Zau rr) n:Int):Rat))
   (λa b ha hb=>⟨_,rfl,Zgo hn λr _=>⟨b3 r,b1 r a,b1 r b⟩⟩) (λa ha=>⟨_,rfl,Zgo hn λr _=>⟨b3 r,b1 r a,b2 r⟩⟩) hN (by rw[<- e];exact x1)
  have f:=Zol (b:=4) m Gk;have d4:D<=pw (5*m):=Qc d2 f;have d5:∀ k,k<m->CD D (pw (5*m)) (X k m):=λk hk=>(d3 k hk).mono f;refine⟨true,X,o1,o2,o3,o4,o5,(Gv hr).symm,⟨λ_=>by rw[<- e];exact x1,λ_=>rfl⟩,λ_=>⟨x2,x3,hN,?_,D,d1,d4,d5⟩⟩;exact Zto hn Gk d1 d4 (Qa _) Gk d5 (λr k _ _=>b1 r k) (λr _=>b2 r) (λr _=>b3 r)
 have o:(Za9 m 0 0 (Zbz rs rr ws n m) false).2.1<m:=Gk;exact⟨false,λ_ _=>0,o1,o2,o3,o4,o5,(Gu hr).symm,⟨λh=>(by cases h),λh=>absurd (by rw[<- e];exact o6 o) h⟩,λh=>(by cases h)⟩
end
def LeastD(w:World)(ds:List DF)(d:DF)(E:Int)(e:Ending)(w':World):Prop:=
 ∃ A0 n0 c0 A n c B m d1,e=.returned (.tuple #[.slice A0 n0 c0,.agg #[.bool d.na,.slice A n c,.bool d.nb,.slice B m d1],.int .i64 E])/\Below w.heap.size w w'/\XL w' A0 n0 c0 ds/\Lim w' A n c d.la/\Lim w' B m d1 d.lb
theorem LeastD.of_bad{w w':World}{e:Ending}{E:Int}(h:e=.returned (.tuple #[.slice none 0 0,.agg #[.bool false,.slice none 0 0,.bool false,.slice none 0 0],.int .i64 E])/\Below w.heap.size w w'):LeastD w [] dfZ E e w':=
 ⟨_,_,_,_,_,_,_,_,_,h.1,h.2,XL.nil _,Lim.nil _ _ _ (Qm _),Lim.nil _ _ _ (Qm _)⟩
theorem LeastD.of_full{full:Bool}{xs:List Rat}{q:Rat}{w w':World}{e:Ending}(hf:full=true)(h:Zqu full xs q w e w'):LeastD w (xs.map dfQ) (dfQ q) 0 e w':=by
 rcases h with ⟨h1,-⟩|⟨-,A0,n0,c0,na,A,n,c,nb,B,m,d,e1,hb,hO,f⟩;rw[hf]at h1;cases h1;have hx:=hO.xl;have h1:=f.1.1;have h2:=f.2.1;have h3:=f.2.2.2;rw[Int.natAbs_natCast]at h3;have h4:nb=false:=by rw[h2];exact Gu Gk
 subst h1 h4;exact⟨_,_,_,_,_,_,_,_,_,e1,hb,hx,f.1.2.2,h3⟩
theorem LeastD.of_short{full:Bool}{xs:List Rat}{q:Rat}{w w':World}{e:Ending}(hf:full=false)(h:Zqu full xs q w e w'):LeastD w [] dfZ 22 e w':=by
 rcases h with ⟨-,h1⟩|⟨h1,-⟩;exact LeastD.of_bad h1;rw[hf]at h1;cases h1
theorem Zn5{w:World}{A:Option Addr}{n c:Nat}{rs:List RI}{rr ws:List Int}(h:MIL w A n c rs)(hE:Zdv rs rr ws=0):0<n/\n<=200/\0<n0I rs/\n0I rs<=12/\rr.length=n/\ws.length=n/\∀ r ∈ rs,r.n=n0I rs:=by
 obtain⟨f1,f2,f3,f4,f5,f6,f7,f8⟩:=Zem hE;have hl:=h.1
 have f:0<n:=by
  rcases Nat.eq_zero_or_pos n with h0|h0
  ·exfalso
   have:rs=[]:=List.eq_nil_of_length_eq_zero Gk;subst this;exact f3 rfl
  exact h0
 have e:n0I rs<=12:=by
  obtain⟨_,_,r0,_,o,_⟩:=h.at_ (i:=0) f;have h1:=Qt o;rw[<- (f8 r0 h1).1];exact f2 r0 h1
 exact⟨f,by omega,by omega,e,by omega,by omega,λr hr=>(f8 r hr).1⟩
theorem Zud(rs:List RI)(rr ws:List Int):∃ (E:Int) (ds:List DF) (d:DF),
    (Zdv rs rr ws≠0->E=Zdv rs rr ws) /\
    (Zdv rs rr ws=0->(Zas (n0I rs) (Zeh rs ws rs.length)=0/\E=22/\ds=[]) \/ (Zas (n0I rs) (Zeh rs ws rs.length)≠0/\E=0/\∃ x:Nat->Rat,ds=((Qj (n0I rs)).map x).map dfQ/\d=dfQ (Zcr rs rr ws x (n0I rs) rs.length)/\Zdw rs rr ws x rs.length (n0I rs)/\Zns rs rr ws x rs.length (n0I rs) /\
     ∃ D,0<D/\D<=pw (5*n0I rs)/\∀ k,k<n0I rs->CD D (pw (5*n0I rs)) (x k))) /\
    ∀ (w:World) (A B C:Option Addr) (n c m0 d0 k e0:Nat),MIL w A n c rs->LimI w B m0 d0 rr->LimI w C k e0 ws ->
    Calls Tryz.prog 60 #[.slice A n c,.slice B m0 d0,.slice C k e0] w (LeastD w ds d E):=by
 by_cases hE:Zdv rs rr ws=0
 ·by_cases hsz:rs.length<=200/\n0I rs<=12
  ·obtain⟨full,X,a1,a2,a3,a4,a5,a6,a7,a8⟩:=Zv6 (n:=rs.length) (m:=n0I rs) hsz.1 hsz.2 hE
   cases full with
   | true =>
    obtain⟨x1,x2,x3,x4,x5⟩:=a8 rfl;refine⟨0,((Qj (n0I rs)).map λj=>X j (n0I rs)).map dfQ,dfQ (Zcr rs rr ws (λj=>X j (n0I rs)) (n0I rs) rs.length),λh=>absurd hE h,λ_=>.inr ⟨a7.1 rfl,rfl,λj=>X j (n0I rs),rfl,rfl,x3,x4,x5⟩,λw A B C n c m0 d0 k e0 h hr hw=>?_⟩;obtain⟨p1,p2,p3,p4,p5,p6,p7⟩:=Zn5 h hE;obtain rfl:rs.length=n:=h.1;obtain rfl:m0=rs.length:=by rw[<- hr.1,p5]
    obtain rfl:k=rs.length:=by rw[<- hw.1,p6]
    exact(Zlz A B C _ c d0 e0 _ rs rr ws w h hr hw hE rfl p1 p3 p4 a1 a3 (by rw[a4];exact a5) X (λ_=>x2) true (by rw[a4];exact a6) (λ_=>x4)).mono λe w' he=>LeastD.of_full rfl he
   | false =>
    refine⟨22,[],dfZ,λh=>absurd hE h,λ_=>.inl ⟨Classical.byContradiction λh=>(by have:=a7.2 h;cases this),rfl,rfl⟩,λw A B C n c m0 d0 k e0 h hr hw=>?_⟩;obtain⟨p1,p2,p3,p4,p5,p6,p7⟩:=Zn5 h hE;obtain rfl:rs.length=n:=h.1;obtain rfl:m0=rs.length:=by rw[<- hr.1,p5]
    obtain rfl:k=rs.length:=by rw[<- hw.1,p6]
    have f:(Za9 (n0I rs) 0 0 (Zbz rs rr ws rs.length (n0I rs)) false).2.1≠n0I rs:=by simpa using a6
    exact(Zlz A B C _ c d0 e0 _ rs rr ws w h hr hw hE rfl p1 p3 p4 a1 a3 (by rw[a4];exact a5) X (λh=>absurd (a4.symm.trans h) f) false (by rw[a4];exact a6) (λh=>(by cases h))).mono λe w' he=>LeastD.of_short rfl he
  refine⟨0,[],dfZ,λh=>absurd hE h,λ_=>?_,λw A B C n c m0 d0 k e0 h hr hw=>?_⟩
  ·exfalso
   obtain⟨f1,f2,f3,f4,f5,f6,f7,f8⟩:=Zem hE;refine hsz ⟨f1,?_⟩;cases hrs:rs with
   | nil=>rw[hrs]at f3;exact absurd rfl f3
   | cons r t =>
    have h1:r ∈ rs:=by rw[hrs];exact List.mem_cons_self
    rw[<- hrs,<- (f8 r h1).1];exact f2 r h1
  exfalso;obtain⟨p1,p2,p3,p4,p5,p6,p7⟩:=Zn5 h hE;have:=h.1;exact hsz ⟨by omega,p4⟩
 refine⟨Zdv rs rr ws,[],dfZ,λ_=>rfl,λh=>absurd h hE,λw A B C n c m0 d0 k e0 h hr hw=>?_⟩;exact(Zqq A B C n c m0 d0 k e0 rs rr ws w h hr hw _ rfl hE).mono λe w' he=>LeastD.of_bad he
def psR(ps:List PE)(T:Nat):List RI:=ps.map λp=>⟨none,T,T,Zi5 p.x p.y T⟩
def xiL(ps:List PE):List Int:=ps.map PE.xi
def etL(ps:List PE):List Int:=ps.map PE.eta
def wtL(ps:List PE):List Int:=ps.map PE.wt
def LikeP(ps:List PE)(T:Nat)(rs:List RI):Prop:=rs.map (λr=>(r.n,r.l))=ps.map λp=>(T,Zi5 p.x p.y T)
section
variable{ps:List PE}{T:Nat}{rs:List RI}
theorem LikeP.len(h:LikeP ps T rs):rs.length=ps.length:=by
 have:=congrArg List.length h;simpa using this
theorem LikeP.at_(h:LikeP ps T rs)(i:Nat):rs[i]?.map (λr=>(r.n,r.l))=ps[i]?.map λp=>(T,Zi5 p.x p.y T):=by
 have:=congrArg (λl=>l[i]?) h;simpa using this
theorem LikeP.mem(h:LikeP ps T rs){r:RI}(hr:r ∈ rs):∃ p ∈ ps,r.n=T/\r.l=Zi5 p.x p.y T:=by
 obtain⟨i,hi,rfl⟩:=List.mem_iff_getElem.1 hr;have h1:=h.at_ i;have hl:=h.len;rw[Qb hi,Qb (by omega:i<ps.length)]at h1;simp only[Qg,Option.some.injEq,Prod.mk.injEq]at h1;exact⟨ps[i],Qi _,h1.1,h1.2⟩
theorem likeP_psR:LikeP ps T (psR ps T):=by unfold LikeP psR;rw[List.map_map];rfl
theorem LikeP.nil(T:Nat):LikeP [] T []:=rfl
theorem LikeP.snoc(h:LikeP ps T rs){p:PE}{r:RI}(h1:r.n=T)(h2:r.l=Zi5 p.x p.y T):LikeP (ps ++ [p]) T (rs ++ [r]):=by
 unfold LikeP at h ⊢;rw[QE,QE,h];simp[h1,h2]
theorem LikeP.col'(h:LikeP ps T rs)(k i:Nat):Z7 rs k i=((ps[i]?.map λp=>Zi5 p.x p.y T).getD [])[k]?.getD 0:=by
 have h1:=h.at_ i;unfold Z7;cases hr:rs[i]? with
 | none=>cases hp:ps[i]? with
  | none=>rfl
  | some p=>rw[hr,hp]at h1;cases h1
 | some r=>cases hp:ps[i]? with
  | none=>rw[hr,hp]at h1;cases h1
  | some p =>
   rw[hr,hp]at h1;simp only[Qg,Option.some.injEq,Prod.mk.injEq]at h1;simp only[Qg,QA,h1.2]
theorem LikeP.col(h:LikeP ps T rs):Z7 rs=Z7 (psR ps T):=by
 funext k i
 rw[h.col',likeP_psR.col']
theorem LikeP.n0(h:LikeP ps T rs)(h0:0<ps.length):n0I rs=T:=by
 have h1:=h.at_ 0;unfold n0I;rw[Qb h0]at h1;cases hr:rs[0]? with
 | none=>rw[hr]at h1;cases h1
 | some r =>
  rw[hr]at h1;simp only[Qg,Option.some.injEq,Prod.mk.injEq]at h1;simp[h1.1]
theorem LikeP.norm(h:LikeP ps T rs){rr ws:List Int}{x:Nat->Rat}{n m:Nat}:Zdw rs rr ws x n m ↔ Zdw (psR ps T) rr ws x n m:=by unfold Zdw;rw[h.col]
theorem LikeP.sqs(h:LikeP ps T rs){rr ws:List Int}{x:Nat->Rat}{m t:Nat}:Zcr rs rr ws x m t=Zcr (psR ps T) rr ws x m t:=by unfold Zcr Zbs;rw[h.col]
theorem LikeP.nrm(h:LikeP ps T rs){ws:List Int}{n:Nat}:Zeh rs ws n=Zeh (psR ps T) ws n:=by unfold Zeh;rw[h.col]
theorem Zb9{p:PE}(h:Zc4 p=true):p.x.natAbs<=8192/\p.y.natAbs<=8192/\p.xi.natAbs<=1099511627776/\p.eta.natAbs<=1099511627776/\1<=p.wt/\p.wt<=1048576:=by
 unfold Zc4 at h;simp only[Qp,decide_eq_true_eq]at h;omega
theorem Znz{least:Int}{l:List Int}(h:∀ x ∈ l,least<=x/\x<=1099511627776):Zfw least l=false:=by
 unfold Zfw;rw[Qo];intro x hx;have:=h x hx;unfold Zks;simp only[Bool.or_eq_true,decide_eq_true_eq];omega
theorem LikeP.sys(h:LikeP ps T rs)(hk:ps.all Zc4=true)(h0:0<ps.length)(hn:ps.length<=200)(hT0:0<T)(hT:T<=10){f:PE->Int}(hf:∀ p,Zc4 p=true->(f p).natAbs<=1099511627776):Zdv rs (ps.map f) (wtL ps)=0:=by
 have o:∀ p ∈ ps,Zc4 p=true:=List.all_eq_true.1 hk;have hl:=h.len;refine Zsw ?_ ?_
 ·unfold Ziz
  rw[Qu,Qo];refine⟨Gu Gk,λr hr=>?_⟩;obtain⟨p,-,e,-⟩:=h.mem hr;unfold RI.long;rw[e];simp;omega
 unfold Zpj;rw[h.n0 h0];simp only[Qp,Qz,decide_eq_true_eq,decide_eq_false_iff_not,QD,List.all_eq_true,wtL];refine⟨by omega,by omega,by omega,Znz λx hx=>?_,Znz λx hx=>?_,λr hr=>?_⟩
 ·obtain⟨p,hp,rfl⟩:=List.mem_map.1 hx
  have:=Zb9 (o p hp);omega
 ·obtain⟨p,hp,rfl⟩:=List.mem_map.1 hx
  have:=hf p (o p hp);omega
 obtain⟨p,hp,e1,e2⟩:=h.mem hr;unfold Zmj;rw[e1,e2];simp only[decide_true,Bool.true_and,Qz];refine Znz λx hx=>?_;obtain⟨j,hj,rfl⟩:=List.mem_map.1 hx;have:=Zb9 (o p hp);have:=Zu9 this.1 this.2.1 (i:=j) (by have:=List.mem_range.1 hj;omega);omega
end
theorem sqs_smN{rs:List RI}{rr ws:List Int}{x:Nat->Rat}{n m e D Z:Nat}(hn:n<=200)(hm:m<=200)(hD:0<D)(hDe:D<=pw e)(hZe:Z<=pw e)(hx:∀ k,k<m->CD D Z (x k))
    (ha:∀ r k,r<n->k<m->B40 (Z7 rs k r)) (hb:∀ r,r<n->B40 (Zau rr r)) (hw:∀ r,r<n->B40 (Zau ws r)):CD (D*D) (pw (2*e+11)) (Zcr rs rr ws x m n):=by
 have ep:∀ z:Int,B40 z->CD 1 (pw 2) (z:Rat):=λz hz=>(CD.whole z).mono (Qc hz Zvo)
 have cf:∀ r k,r<n->k<m->CD D (pw (2+e)) ((Z7 rs k r:Rat)*x k):=λr k hr hk=>by
  exact Iq
 have cres:∀ r,r<n->CD D (pw (e+4)) (Zbs rs rr x m r):=λr hr=>by
  unfold Zbs;have h1:=(ep _ (hb r hr)).liftL hD rfl;have h2:=CD.sumQ (n:=m) (f:=λk=>(Z7 rs k r:Rat)*x k) (λk hk=>cf r k hr Gk);refine(h1.sub h2).mono ?_;have h3:pw 2*D<=pw (e+3):=Qc (Zcl (Qa _) hDe) (Zbm Gk);have h4:m*pw (2+e)<=pw (e+3):=Qc (Zcl (k_pw (show m<=4294967296 by omega)) (Qa _)) (Zbm Gk);exact Qc (Qh h3 h4) (Zhy (e+3))
 have csq:∀ r,r<n->CD (D*D) (pw (e+4+(e+4))) (Zbs rs rr x m r*Zbs rs rr x m r):=λr hr =>
  ((cres r hr).mul (cres r hr)).mono (Zcl (Qa _) (Qa _))
 have cw:∀ r,r<n->CD (D*D) (pw (e+4+(e+4)+2)) (Zbs rs rr x m r*Zbs rs rr x m r*(Zau ws r:Rat)):=λr hr=>by
  exact Iy
 have:=(CD.sumQ (n:=n) (f:=λr=>Zbs rs rr x m r*Zbs rs rr x m r*(Zau ws r:Rat)) (λr hr=>cw r Gk)).mono (Zcl (k_pw (show n<=4294967296 by omega)) (Qa _));exact this.mono (Zbm Gk)
def T4(i:Nat):TypeId:=if i=0 then 63 else 2
def X4(rs:List RI)(l:Nat->List Int)(i:Nat):List Value:=if i=0 then rs.map Zi1 else (l i).map intv
structure FitI (B:Nat) (w:World) (V:Nat->Value) (rs:List RI) (l:Nat->List Int):Prop where
 own:OwnN B w 4 T4 V (X4 rs l)
 rows:∀ r ∈ rs,RowO 4 V w r
 i64:∀ i,1<=i->i<4->∀ x ∈ l i,I64 x
section
variable{B:Nat}{w w':World}{V:Nat->Value}{rs:List RI}{l:Nat->List Int}
theorem FitI.o0(h:FitI B w V rs l):w.ownsRow B 63 1 (V 0) rs.length (rs.map Zi1):=by
 have:=h.own.own 0 Gi;unfold X4 T4 at this;simpa using this
theorem FitI.oj(h:FitI B w V rs l){j:Nat}(h1:1<=j)(h4:j<4):w.ownsRow B 2 1 (V j) (l j).length ((l j).map intv):=by
 have:=h.own.own j h4;unfold X4 T4 at this;rw[Gw Gk,Gw Gk]at this;simpa using this
theorem FitI.below(h:FitI B w V rs l)(hb:Below w.heap.size w w'):FitI B w' V rs l:=
 ⟨h.own.below hb,λr hr=>(h.rows r hr).below hb,h.i64⟩
theorem FitI.congr(h:FitI B w V rs l){V':Nat->Value}{l':Nat->List Int}(hV:∀ i,i<4->V' i=V i)(hl:∀ i,1<=i->i<4->l' i=l i):FitI B w V' rs l':=by
 refine⟨⟨λi hi=>?_,λi j hi hj hij g hg=>?_⟩,λr hr=>⟨(h.rows r hr).1,λa ha=>⟨((h.rows r hr).2 a ha).1,λi hi=>?_⟩⟩,λi h1 h4=>?_⟩
 ·have:=h.own.own i hi
  rw[hV i hi];by_cases h0:i=0;subst h0;exact this;unfold X4 at this ⊢;rw[Gw h0]at this ⊢;rw[hl i Gk hi];exact this
 ·rw[hV i hi]at hg
  rw[hV j hj];exact h.own.dis i j hi hj hij g hg
 ·rw[hV i hi]
  exact((h.rows r hr).2 a ha).2 i hi
 rw[hl i h1 h4];exact h.i64 i h1 h4
theorem FitI.start(B:Nat)(w:World){l:Nat->List Int}(hl:∀ i,1<=i->i<4->l i=[]):FitI B w (λ_=>.slice none 0 0) [] l:=by
 refine⟨⟨λi hi=>?_,(OwnN.none_ w 4 B T4).dis⟩,λr hr=>(by cases hr),λi h1 h4 x hx=>?_⟩
 ·have:=(OwnN.none_ w 4 B T4).own i hi
  unfold X4;by_cases h0:i=0;rw[Gx h0];exact this;rw[Gw h0,hl i Gk hi];exact this
 rw[hl i h1 h4]at hx;cases hx
theorem FitI.push0(h:FitI B w V rs l){r:RI}{v':Value}(hr:RowO 4 V w r)(ho:w'.ownsRow B 63 1 v' (rs.length+1) (rs.map Zi1 ++ [Zi1 r]))(hg:w.grownBy w' (V 0).ownBlock)
    (hv:v'.ownBlock=(V 0).ownBlock \/ v'.ownBlock=some w.heap.size):FitI B w' (Ze5 V 0 v') (rs ++ [r]) l:=by
 have h1:=h.own.push (k:=0) (xs:=rs.map Zi1 ++ [Zi1 r]) Gi (by unfold T4;simpa using ho) hg hv;refine⟨?_,λs hs=>?_,h.i64⟩
 ·have e:Ze5 (X4 rs l) 0 (rs.map Zi1 ++ [Zi1 r])=X4 (rs ++ [r]) l:=by
    funext i
    unfold Ze5 X4;by_cases h0:i=0;simp[h0];simp[h0]
  rw[e]at h1;exact h1
 rcases List.mem_append.1 hs with hs|hs;exact(h.rows s hs).push Gi hg hv;rw[Qy]at hs;subst hs;exact hr.push Gi hg hv
theorem FitI.pushj(h:FitI B w V rs l){j:Nat}(h1:1<=j)(h4:j<4){x:Int}(hx:I64 x){v':Value}(ho:w'.ownsRow B 2 1 v' ((l j).length+1) ((l j).map intv ++ [intv x]))(hg:w.grownBy w' (V j).ownBlock)
    (hv:v'.ownBlock=(V j).ownBlock \/ v'.ownBlock=some w.heap.size):FitI B w' (Ze5 V j v') rs (Ze5 l j (l j ++ [x])):=by
 have hT:T4 j=2:=by unfold T4;rw[Gw Gk]
 have h5:=h.own.push (k:=j) (xs:=(l j).map intv ++ [intv x]) h4 (by rw[hT];simpa using ho) hg hv;refine⟨?_,λs hs=>(h.rows s hs).push h4 hg hv,λi k1 k4 y hy=>?_⟩
 ·have e:Ze5 (X4 rs l) j ((l j).map intv ++ [intv x])=X4 rs (Ze5 l j (l j ++ [x])):=by
    funext i
    unfold Ze5 X4;by_cases h0:i=0;subst h0;simp;omega;by_cases hij:i=j;subst hij;simp[h0];simp[h0,hij]
  rw[e]at h5;exact h5
 unfold Ze5 at hy
 split at hy
 ·rename_i e
  subst e;rcases List.mem_append.1 hy with hy|hy;exact h.i64 _ k1 k4 y hy;rw[Qy]at hy;subst hy;exact hx
 exact h.i64 i k1 k4 y hy
end
def VdF(V:Nat->Value)(d:Nat->Option Value):Nat->Value:=λi=>if i=0 then V 0 else (d (5*i-1)).getD (V i)
def LdF(l:Nat->List Int)(x:Nat->Int)(d:Nat->Option Value):Nat->List Int:=λi=>if (d (5*i-1)).isSome then l i ++ [x i]else l i
structure FitJ (B:Nat) (w0:World) (gp:Nat) (tp:TypeId) (cs:Array Value) (V:Nat->Value) (rs:List RI) (l:Nat->List Int) (x:Nat->Int) (d:Nat->Option Value) (w:World):Prop where
 bel:Below B w0 w
 pos:B<=w.heap.size
 pair:Blk w gp tp cs/\Off 4 (VdF V d) gp
 fit:FitI B w (VdF V d) rs (LdF l x d)
 new:∀ j,1<=j->j<4->∀ v,d (5*j-2)=some v->∃ gb,v=.slice (some ⟨gb,0,none⟩) 1 1/\Blk w gb 2 #[intv (x j)]/\Off 4 (VdF V d) gb
section
variable{B:Nat}{w0 w w':World}{gp:Nat}{tp:TypeId}{cs:Array Value}{V:Nat->Value}{rs:List RI}{l:Nat->List Int}{x:Nat->Int}{d:Nat->Option Value}
theorem FitJ.start(h:FitI B w0 V rs l)(hB:B<=w0.heap.size)(hp:Blk w0 gp tp cs)(ho:Off 4 V gp):FitJ B w0 gp tp cs V rs l x (λ_=>none) w0:=by
 have hV:∀ i,i<4->VdF V (λ_=>none) i=V i:=λi _=>by unfold VdF;by_cases h0:i=0 <;> simp[h0]
 exact⟨Below.refl _ _,hB,⟨hp,λi hi=>by rw[hV i hi];exact ho i hi⟩,h.congr hV (λi _ _=>by unfold LdF;simp),λj _ _ v hv=>(by cases hv)⟩
theorem VdF_new{k:Nat}(hk:∀ i,1<=i->i<4->5*i-1≠k)(v:Value):∀ i,i<4->VdF V (λn=>if n=k then some v else d n) i=VdF V d i:=λi hi=>by
 unfold VdF;by_cases h0:i=0;simp[h0];simp only[Gw h0,Gw (hk i Gk hi)]
theorem FitJ.build(h:FitJ B w0 gp tp cs V rs l x d w){j:Nat}(h1:1<=j)(h4:j<4):FitJ B w0 gp tp cs V rs l x (λn=>if n=5*j-2 then some (.slice (some ⟨w.heap.size,0,none⟩) 1 1)else d n) (w.alloc (.cells #[intv (x j)] 2)):=by
 have hk:∀ i,1<=i->i<4->5*i-1≠5*j-2:=λi _ _=>by omega
 have hV:=VdF_new (V:=V) (d:=d) hk (.slice (some ⟨w.heap.size,0,none⟩) 1 1);have hb:Below w.heap.size w (w.alloc (.cells #[intv (x j)] 2)):=(Below.refl _ _).alloc (Qa _) _;refine⟨h.bel.trans (hb.mono h.pos),Qc h.pos hb.size,⟨Zc hb h.pair.1,λi hi=>by rw[hV i hi];exact h.pair.2 i hi⟩,(h.fit.below hb).congr hV (λi i1 i4=>?_),λi i1 i4 v hv=>?_⟩
 ·unfold LdF
  simp only[Gw (hk i i1 i4)]
 by_cases e:i=j
 ·subst e
  rw[Gx rfl]at hv;cases hv;exact⟨_,rfl,Blk.new _ _ _,λk hk4=>by rw[hV k hk4];exact h.fit.own.off (.inr (Qa _)) k hk4⟩
 rw[Gw Gk]at hv;obtain⟨gb,e1,e2,e3⟩:=h.new i i1 i4 v hv;exact⟨gb,e1,Zc hb e2,λk hk4=>by rw[hV k hk4];exact e3 k hk4⟩
theorem Zov{j:Nat}(h1:1<=j)(v:Value):VdF V (λn=>if n=5*j-1 then some v else d n)=Ze5 (VdF V d) j v:=by
 funext i
 unfold VdF Ze5;by_cases h0:i=0;subst h0;rw[Gw (show ¬ (0=j) by omega)];simp;by_cases hij:i=j;subst hij;simp[h0];simp only[Gw h0,Gw hij];rw[Gw Gk]
theorem LdF_app{j:Nat}(h1:1<=j)(v:Value)(hd:d (5*j-1)=none):∀ i,1<=i->i<4->LdF l x (λn=>if n=5*j-1 then some v else d n) i=Ze5 (LdF l x d) j (LdF l x d j ++ [x j]) i:=λi i1 i4=>by
 unfold LdF Ze5;by_cases hij:i=j;subst hij;simp[hd];simp only[Gw hij];simp only[Gw (show ¬ (5*i-1=5*j-1) by omega)]
theorem FitJ.app(h:FitJ B w0 gp tp cs V rs l x d w){j:Nat}(h1:1<=j)(h4:j<4)(hd:d (5*j-1)=none)(hx:I64 (x j)){v':Value}
    (ho:w'.ownsRow B 2 1 v' ((LdF l x d j).length+1) ((LdF l x d j).map intv ++ [intv (x j)])) (hg:w.grownBy w' (VdF V d j).ownBlock) (hv:v'.ownBlock=(VdF V d j).ownBlock \/ v'.ownBlock=some w.heap.size) :
    FitJ B w0 gp tp cs V rs l x (λn=>if n=5*j-1 then some v' else d n) w':=by
 have h5:=h.fit.pushj h1 h4 hx ho hg hv;rw[<- Zov h1]at h5;have hb:=Zk5 h.fit.own h4 h.pos hg;refine⟨h.bel.trans hb,Qc h.pos hg.size,⟨h.pair.2.blk h4 h.pair.1 hg,?_⟩,h5.congr (λ_ _=>rfl) (LdF_app h1 v' hd),λi i1 i4 v hv2=>?_⟩;rw[Zov h1];exact h.pair.2.push h.pair.1.lt h4 hv;rw[Gw Gk]at hv2;obtain⟨gb,e1,e2,e3⟩:=h.new i i1 i4 v hv2;exact⟨gb,e1,e3.blk h4 e2 hg,by rw[Zov h1];exact e3.push e2.lt h4 hv⟩
theorem FitJ.cur{j:Nat}(h1:1<=j)(hd:d (5*j-1)=none):VdF V d j=V j/\LdF l x d j=l j:=by
 refine⟨?_,?_⟩
 ·unfold VdF
  rw[Gw Gk,hd];rfl
 unfold LdF;simp[hd]
theorem FitJ.own(h:FitJ B w0 gp tp cs V rs l x d w){j:Nat}(h1:1<=j)(h4:j<4)(hd:d (5*j-1)=none):w.ownsRow B 2 1 (V j) (l j).length ((l j).map intv):=by
 have:=h.fit.oj h1 h4;have e:=FitJ.cur (V:=V) (l:=l) (x:=x) h1 hd;rw[e.1,e.2]at this;exact this
theorem FitJ.app2(h:FitJ B w0 gp tp cs V rs l x d w){j:Nat}(h1:1<=j)(h4:j<4)(hd:d (5*j-1)=none)(hx:I64 (x j)){v':Value}
    (ho:w'.ownsRow B 2 1 v' ((l j).length+1) ((l j).map intv ++ [intv (x j)])) (hg:w.grownBy w' (V j).ownBlock) (hv:v'.ownBlock=(V j).ownBlock \/ v'.ownBlock=some w.heap.size) :
    FitJ B w0 gp tp cs V rs l x (λn=>if n=5*j-1 then some v' else d n) w':=by
 have e:=FitJ.cur (V:=V) (l:=l) (x:=x) h1 hd;exact h.app h1 h4 hd hx (by rw[e.2];exact ho) (by rw[e.1];exact hg) (by rw[e.1];exact hv)
end
def LLf(qs:List PE):Nat->List Int:=λi=>if i=1 then xiL qs else if i=2 then etL qs else wtL qs
def xxF(p:PE):Nat->Int:=λi=>if i=1 then p.xi else if i=2 then p.eta else p.wt
theorem Zv0(qs:List PE)(p:PE)(i:Nat):LLf (qs ++ [p]) i=LLf qs i ++ [xxF p i]:=by
 unfold LLf xxF xiL etL wtL;by_cases h1:i=1;simp[h1];by_cases h2:i=2 <;> simp[h1,h2]
theorem Zsu(qs:List PE)(i:Nat):(LLf qs i).length=qs.length:=by
 unfold LLf xiL etL wtL;by_cases h1:i=1;simp[h1];by_cases h2:i=2 <;> simp[h1,h2]
theorem Zot{p:PE}(h:Zc4 p=true)(i:Nat):I64 (xxF p i):=by
 have:=Zb9 h;unfold xxF I64
 split
 omega
 split <;> omega
theorem FitJ.all{B:Nat}{w0 w:World}{gp:Nat}{tp:TypeId}{cs:Array Value}{V:Nat->Value}{rs:List RI}{qs:List PE}{p:PE}{d:Nat->Option Value}{a b c:Value}(h:FitJ B w0 gp tp cs V rs (LLf qs) (xxF p) d w)(h4:d 4=some a)(h9:d 9=some b)(h14:d 14=some c) :
    FitI B w (λi=>if i=0 then V 0 else if i=1 then a else if i=2 then b else c) rs (LLf (qs ++ [p])):=by
 refine h.fit.congr (λi hi=>?_) (λi i1 i4=>?_)
 ·unfold VdF
  have:i=0 \/ i=1 \/ i=2 \/ i=3:=Gk;rcases this with rfl|rfl|rfl|rfl <;> simp[h4,h9,h14]
 rw[Zv0];unfold LdF;have:i=1 \/ i=2 \/ i=3:=Gk;rcases this with rfl|rfl|rfl <;> simp[h4,h9,h14]
theorem Zfy{w:World}{g:Nat}{t:TypeId}{v:Value}(h:Blk w g t #[v]):Reads w w.heap.size 1 (some ⟨g,0,none⟩) 1 [v]:=
 ⟨rfl,λ_=>⟨_,rfl,h.lt,λj u hu=>by
  rw[Zf,Nat.zero_add,h.cell];simpa using hu⟩⟩
theorem Zng{α:Type}{l:List α}{i:Nat}{q:α}(h:l[i]?=some q):l.take (i+1)=l.take i ++ [q]:=by
 rw[List.take_add_one,h];rfl
theorem Zwn:(Tryz.prog.info? 63).map (λi=>(i.zero,i.size,i.bytes))=some (some (.slice none 0 0),1,24):=by kernel_rfl
open Go.ChangeShapes Go.WideShapes Go.Deep Go.RowKit
section
variable{H:Type}{enc:TypeId × Value->H}{P:Program}{w:World}{base:Nat}{spare:Nat->Bool}{held:Bool}
end
section
variable{H:Type}{enc:TypeId × Value->H}{P:Program}
theorem Zmf{f:Func}{s:ChangeSpec}{apart fresh handsOn again:Bool}{W W':World}{args:Array Value}{v:Value}{ds gs:List (DataW H)}{before pa pv:List MemPlace}
    (hW:DataW.Whole enc P f.params.toList s.vars apart W args.toList ds gs before)
    (hres:∀ (b:Nat) (sp:Nat->Bool) (hd:Bool),DataW.TrodAll enc P W' b sp hd f.resultTypes.toList (v.resultList f.resultTypes.size) (s.fn H (ds++gs)).results [])
    (hargs:∀ sp:Nat->Bool,(∀ p ∈ before,sp p.block=true)->DataW.TrodAll enc P W' 0 sp true f.params.toList args.toList (s.fn H (ds++gs)).args pa)
    (hvars:∀ sp:Nat->Bool,(∀ p ∈ before,sp p.block=true)->DataW.TrodVars enc P W' sp s.vars (s.fn H (ds++gs)).vars pv)
    (hps:before=pa++pv) (hb:Below W.heap.size W W')
    (hok:∀ (j:Nat) (t:TypeId) (r:Value),f.resultTypes[j]?=some t->(v.resultList f.resultTypes.size)[j]?=some r->Value.okWide P W' .any 0 t r) :
    s.post enc P f apart fresh handsOn again W args v W':=by
 have h:∀ p ∈ before,p.block<W.heap.size:=λp hp=>hW.lt p hp;have e:∀ p ∈ before,(λb=>decide (b<W.heap.size)) p.block=true:=λp hp=>by simpa using h p hp
 refine⟨ds,gs,before,[],pa,pv,hW,hres _ _ _,hargs _ e,hvars _ e,World.keptBut_mono (λp hp=>⟨hp,?_⟩) (hb.frame (· ∈ before)),λ_=>?_⟩
 ·rw[hps,List.mem_append]at hp
  exact Or.inr hp
 obtain⟨_,_,_,_,_,hz,hn⟩:=hW;refine⟨hok,_,_,([]++pa)++pv,⟨[]++pa,pv,trodAll_append (hargs _ (λ_ _=>rfl)) (hres _ _ _),hvars _ (λ_ _=>rfl),rfl,?_,?_⟩,?_⟩
 ·intro b off hp
  have o:MemPlace.cell b off ∈ before:=by rw[hps];simpa using hp
  rw[hb.frozen (h _ o)];exact hz b off o
 ·intro ha
  have:=hn ha;rw[hps]at this;simpa using this
 intro p hp _;rw[hps];simpa using hp
end
theorem Zsn{α:Type}(P:Nat->α->Prop)(n:Nat)(h:∀ i,i<n->∃ e,P i e):∃ es:List α,es.length=n/\∀ (k:Nat) (e:α),es[k]?=some e->P k e:=by
 induction n with
 | zero=>exact⟨[],rfl,λk e h=>by simp at h⟩
 | succ n ih =>
  obtain⟨es,h1,h2⟩:=ih λi hi=>h i Gk;obtain⟨e,he⟩:=h n Gk;refine⟨es ++ [e],by simp[h1],λk e' hk=>?_⟩;rcases Nat.lt_or_ge k es.length with o|f;rw[List.getElem?_append_left o]at hk;exact h2 k e' hk;rw[List.getElem?_append_right f]at hk;rcases Nat.eq_or_lt_of_le f with h0|h0
  ·rw[show k-es.length=0 by omega]at hk
   simp at hk;subst hk;rw[<- h0,h1];exact he
  rw[Qe Gg]at hk;cases hk
theorem Zll{w:World}{a:Addr}{v:Value}(h:w.cell? a=some v):a=⟨a.block,a.off,none⟩:=by
 obtain⟨b,o,s⟩:=a;cases s with
 | none=>rfl
 | some s =>
  exfalso;unfold World.cell? at h;simp at h
  split at h <;> simp at h
section
variable{H:Type}{enc:TypeId × Value->H}{w:World}{base:Nat}{spare:Nat->Bool}{held:Bool}
end
theorem Zst{z:Int}(h:(Lit.int .u32 z).wf=true):0<=z/\z<=4294967295:=by
 simp only[Lit.wf,Qp,decide_eq_true_eq]at h;exact h
section
variable{H:Type}{enc:TypeId × Value->H}{w:World}{base:Nat}{spare:Nat->Bool}{held:Bool}
theorem IP{G:Prop}(h:G:=by
 obtain⟨b,o,s⟩:=a;refine⟨b,o,?_⟩;unfold Addr.add at hp
 split at hp <;> simp_all):G:=h
theorem Zt0{fuel:Nat}{cs:List Value}{x:DataW H × List MemPlace}(h:DataW.trod enc Tryz.prog w base spare held fuel 28 cs=some x):∃ (A:Option Addr) (n c:Nat) (l:List Nat),cs=[.slice A n c]/\Lim w A n c l:=by
 rcases open_ints Tryz.underlying28 Tryz.underlying143 Gj h with ⟨rfl,_⟩|⟨a,len,cap,zs,rfl,_,hl,hm,hz,_,e,u⟩;exact⟨none,0,0,[],rfl,Lim.nil _ _ _ (Qm _)⟩;have E:len<=zs.length:=by rw[hz];split <;> omega
 refine⟨some a,len,cap,(zs.take len).map Int.toNat,rfl,by simp;omega,hl,hm,λv hv=>?_,λhn=>?_⟩
 ·obtain⟨z,C,rfl⟩:=List.mem_map.1 hv
  have:=Zst (u z (List.mem_of_mem_take C));omega
 have h0:=e 0 Gk;have hp:=Zll h0
 obtain⟨b,o,s⟩:∃ b o,a=⟨b,o,none⟩:=by
  exact IP
 subst s;refine⟨b,o,rfl,λk hk=>?_⟩;have hc:=e k Gk;rw[Zf]at hc;rw[hc];have f:k<zs.length:=Gk;have hw:=Zst (u zs[k] (Qi f));rw[Qn,List.getElem?_take,Gx hk,Qb f,List.getD_eq_getElem?_getD,Qb f];simp[limb];omega
theorem Zld{fuel:Nat}{cs:List Value}{x:DataW H × List MemPlace}(h:DataW.trod enc Tryz.prog w base spare held fuel 30 cs=some x):∃ (na:Bool) (A:Option Addr) (n c:Nat) (l:List Nat),cs=[.bool na,.slice A n c]/\Lim w A n c l:=by
 obtain⟨xs,n',_,_,hl,e,f⟩:=DataW.trod_struct Tryz.underlying30 h;have c2:Tryz.prog.cellsOf 30=2:=Gj;have c0:Tryz.prog.cellsOf 4=1:=Gj;have c1:Tryz.prog.cellsOf 28=1:=Gj;rw[c2]at hl
 obtain⟨x,y,rfl⟩:∃ x y,cs=[x,y]:=by
  match cs,hl with
  | [x,y],_=>exact⟨x,y,rfl⟩
 have f0:=f 0 _ rfl;have f1:=f 1 _ rfl;simp only[Qv,Qr,Qs]at f0 f1;rw[c0]at f0;rw[c1]at f1;have g0:xs[0]?=some (xs[0]'(by rw[e];decide)):=Qb _;have g1:xs[1]?=some (xs[1]'(by rw[e];decide)):=Qb _;rw[g0]at f0;rw[g1]at f1;obtain⟨b,e0,_⟩:=DataW.trod_bool Tryz.underlying4 f0;obtain⟨A,n,c,l,e1,hL⟩:=Zt0 f1;simp at e0 e1;subst e0 e1;exact⟨b,A,n,c,l,rfl,hL⟩
theorem Zke{fuel:Nat}{cs:List Value}{x:DataW H × List MemPlace}(h:DataW.trod enc Tryz.prog w base spare held fuel 32 cs=some x) :
    ∃ (na nb:Bool) (A B:Option Addr) (n c m d:Nat) (la lb:List Nat),cs=[.bool na,.slice A n c,.bool nb,.slice B m d]/\Lim w A n c la/\Lim w B m d lb:=by
 obtain⟨xs,n',_,_,hl,e,f⟩:=DataW.trod_struct Tryz.underlying32 h;have c4:Tryz.prog.cellsOf 32=4:=Gj;have c2:Tryz.prog.cellsOf 30=2:=Gj;rw[c4]at hl
 obtain⟨x,y,z,u,rfl⟩:∃ x y z u,cs=[x,y,z,u]:=by
  match cs,hl with
  | [x,y,z,u],_=>exact⟨x,y,z,u,rfl⟩
 have f0:=f 0 _ rfl;have f1:=f 1 _ rfl;simp only[Qv,Qr,Qs]at f0 f1;rw[c2]at f0 f1;have g0:xs[0]?=some (xs[0]'(by rw[e];decide)):=Qb _;have g1:xs[1]?=some (xs[1]'(by rw[e];decide)):=Qb _;rw[g0]at f0;rw[g1]at f1;obtain⟨na,A,n,c,la,e0,h0⟩:=Zld f0;obtain⟨nb,B,m,d,lb,e1,h1⟩:=Zld f1;simp at e0 e1;obtain⟨rfl,rfl⟩:=e0;obtain⟨rfl,rfl⟩:=e1;exact⟨na,nb,A,B,n,c,m,d,la,lb,rfl,h0,h1⟩
theorem Zne{r:Reach}{b0:Nat}{v:Value}{d:DataW H}{p:List MemPlace}(hv:Value.okWide Tryz.prog w r b0 32 v)(h:DataW.Trod enc Tryz.prog w base spare held 32 v d p) :
    ∃ (na nb:Bool) (A B:Option Addr) (n c m d:Nat) (la lb:List Nat),v=.agg #[.bool na,.slice A n c,.bool nb,.slice B m d]/\Lim w A n c la/\Lim w B m d lb:=by
 obtain⟨cs,rfl,f⟩:=okWide_struct Tryz.underlying32 hv;obtain⟨fuel,hf⟩:=h;obtain⟨na,nb,A,B,n,c,m,d,la,lb,e,h1,h2⟩:=Zke hf;refine⟨na,nb,A,B,n,c,m,d,la,lb,?_,h1,h2⟩;congr 1;apply Array.toList_inj.1;exact e
end
section
variable{H:Type}{enc:TypeId × Value->H}{w:World}{base:Nat}{spare:Nat->Bool}{held:Bool}
theorem Zjq{fuel:Nat}{cs:List Value}{x:DataW H × List MemPlace}(h:DataW.trod enc Tryz.prog w base spare held fuel 25 cs=some x):∃ (A:Option Addr) (n c:Nat) (es:List FX),cs=[.slice A n c]/\FXL w A n c es:=by
 have c4:Tryz.prog.cellsOf 32=4:=Gj;rcases open_slice Tryz.underlying25 h with ⟨E,_⟩|⟨a,n,c,m,f,D,Pl,E,_,hl,hm,I,_,hi⟩;exact⟨none,0,0,[],E,rfl,Qa _,Qm _,λe he=>(by cases he),λh=>absurd h Gk⟩;have U:n<=m:=by rw[I];split <;> omega
 rw[c4]at hi
 obtain⟨es,J,C⟩:=Zsn (λi (e:FX)=>w.cell? (a.add (i*4+0))=some (.bool e.na)/\w.cell? (a.add (i*4+1))=some (.slice e.A e.n e.c)/\w.cell? (a.add (i*4+2))=some (.bool e.nb)/\w.cell? (a.add (i*4+3))=some (.slice e.B e.m e.d)/\e.in_ w) n (λi hin=>by
  obtain⟨O,hc,ht⟩:=hi i Gk;obtain⟨na,nb,A,B,n1,c1,m1,d1,la,lb,rfl,h1,h2⟩:=Zke ht;obtain⟨_,_,u⟩:=World.cells?_some hc;have g0:=u 0 Gh;have g1:=u 1 Gh;have g2:=u 2 Gh;have g3:=u 3 Gh;rw[Go.Deep.add_add]at g0 g1 g2 g3;exact⟨⟨na,A,n1,c1,la,nb,B,m1,d1,lb⟩,by simpa using g0,by simpa using g1,by simpa using g2,by simpa using g3,h1,h2⟩)
 refine⟨some a,n,c,es,E,J,hl,hm,λe he=>?_,λhn=>?_⟩
 ·obtain⟨k,hk,rfl⟩:=List.getElem_of_mem he
  exact(C k _ (Qb hk)).2.2.2.2
 obtain⟨b,o,rfl⟩:∃ b o,a=⟨b,o,none⟩:=by
   have h0:=C 0 _ (Qb Gk);have hp:=Zll h0.1;exact IP
 refine⟨b,o,rfl,λk e hk=>?_⟩;have h0:=C k e hk;rw[Zf,Zf,Zf,Zf]at h0;exact⟨h0.1,by rw[Qw];exact h0.2.1,by rw[Qw];exact h0.2.2.1,by rw[Qw];exact h0.2.2.2.1⟩
end
