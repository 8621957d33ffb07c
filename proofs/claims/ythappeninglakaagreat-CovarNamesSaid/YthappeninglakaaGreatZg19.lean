/- What Part yields (plain). Arguments opened: a slice of -/
import Derived.ProofKit
import Derived.Deep.Slices
import Derived.Deep.Fields
import Derived.ChangeSame
import Derived.Test.YthappeninglakaaGreatProg
import Derived.Deep.LoopGhost
import Derived.Test.YthappeninglakaaGreatZg18
set_option maxRecDepth 100000
set_option maxHeartbeats 16000000
set_option linter.unusedSimpArgs false
set_option linter.unusedVariables false
namespace Go.Proofs.YthappeninglakaaGreat
open Go.RowKit
open List renaming getElem?_eq_getElem→Qa,getElem?_map→Qd,getElem?_eq_none→Qg,mem_singleton→Qi,replicate→Ql,map_congr_left→Qn,getElem_of_mem→Qs,range→Qv,take_add_one→Qw,getElem_mem→Qx,map_map→Qy,length_map→Qz,eq_nil_of_length_eq_zero→QA,range_succ→QC,mem_of_getElem?→QE,getElem?_range→QF,length_append→QJ,getElem_take→QM,ext_getElem?→QN,getElem?_set→QO,length_take→QP,ext_getElem→QQ,all_eq_true→QR,length_nil→QS,length_set→QU
open Act renaming put→Qb
open Nat renaming le_refl→Qc,le_trans→Qf,mul_le_mul→Qm,lt_or_ge→Qr,lt_trans→Qu,lt_succ_self→QB,zero_add→QG,eq_zero_or_pos→QH,lt_of_le_of_lt→QI,lt_of_lt_of_le→QL
open Below renaming refl→Qe
open Option renaming getD_some→Qh,map_some→Qk
open Kept renaming refl→Qj
open Rat renaming intCast_natCast→Qo,num_divInt_den→Qt,intCast_neg→QT
open Blk renaming new→Qp
open Int renaming natAbs_natCast→Qq
open Bool renaming or_eq_false_iff→QD
open Or renaming inl→QK
open _root_.Array renaming replicate→QV
def idxOk(n:Nat)(ls:List Int)(k:Nat):Prop:=(0<=ls[k]?.getD 0/\ls[k]?.getD 0<n)/\∀ j:Nat,j<k->ls[j]?.getD 0≠ls[k]?.getD 0
instance (n:Nat) (ls:List Int) (k:Nat):Decidable (idxOk n ls k):=by unfold idxOk;infer_instance
def Zh0(n:Nat)(ls:List Int):Bool:=decide (0<ls.length) && decide (ls.length<=n) && decide (∀ k,k<ls.length->idxOk n ls k)
def Zfl(rs:List RX)(ls:List Int):Int:=if Zaf rs=0 then (if Zh0 rs.length ls=true then 0 else 8)else Zaf rs
def Zcq(Q:List (List Rat))(ls:List Int)(a:Int):List Rat:=ls.map λb=>Zh Q a.toNat b.toNat
def Zk7(Q:List (List Rat))(ls:List Int):List (List Rat):=ls.map (Zcq Q ls)
section
variable{rs:List RX}{ls:List Int}{n:Nat}
theorem Zwd{E:Int}(h:Zaf rs=E)(h0:E≠0):Zfl rs ls=E:=by subst h;unfold Zfl;rw[Gw h0]
theorem Zd5(h:Zaf rs=0)(hb:Zh0 rs.length ls=false):Zfl rs ls=8:=by unfold Zfl;rw[Gx h,hb];rfl
theorem Zsq(h:Zaf rs=0)(hb:Zh0 rs.length ls=true):Zfl rs ls=0:=by unfold Zfl;rw[Gx h,hb];rfl
theorem Zwz(h:ls.length=0):Zh0 n ls=false:=by unfold Zh0;rw[h];rfl
theorem Zuc(h:n<ls.length):Zh0 n ls=false:=by unfold Zh0;rw[Gu (show ¬ ls.length<=n by omega)];simp
theorem Zkr{k:Nat}(hk:k<ls.length)(h:¬ idxOk n ls k):Zh0 n ls=false:=by
 unfold Zh0;rw[Gu (p:=∀ k,k<ls.length->idxOk n ls k) (λh2=>h (h2 k hk))];simp
theorem Zyn(h0:0<ls.length)(h1:ls.length<=n)(h:∀ k,k<ls.length->idxOk n ls k):Zh0 n ls=true:=by
 unfold Zh0;rw[Gv h0,Gv h1,Gv h];rfl
theorem idxOk.mem{k:Nat}(hk:k<ls.length):(ls[k]?.getD 0 ∈ ls.take k) ↔ ∃ j,j<k/\ls[j]?.getD 0=ls[k]?.getD 0:=by
 constructor
 ·intro h
  obtain⟨j,hj,e⟩:=Qs h;rw[QP]at hj;refine⟨j,by omega,?_⟩;rw[QM]at e;rw[<- e,Qa (show j<ls.length by omega)];rfl
 ·rintro⟨j,hj,e⟩
  rw[<- e,Qa (show j<ls.length by omega),Qh];have:ls[j]=(ls.take k)[j]'(by rw[QP];omega):=by rw[QM]
  rw[this];exact Qx _
theorem Zla{Q:List (List Rat)}{a:Int}:(Zcq Q ls a).length=ls.length:=by simp[Zcq]
theorem Zov{Q:List (List Rat)}:(Zk7 Q ls).length=ls.length:=by simp[Zk7]
theorem Zql{Q:List (List Rat)}{a:Int}{k:Nat}(hk:k<ls.length):(Zcq Q ls a).take k ++ [Zh Q a.toNat (ls[k]?.getD 0).toNat]=(Zcq Q ls a).take (k+1):=by
 rw[Qw];unfold Zcq;rw[Qd,Qa hk];rfl
theorem Zs4{Q:List (List Rat)}{k:Nat}(hk:k<ls.length):(Zk7 Q ls).take k ++ [Zcq Q ls (ls[k]?.getD 0)]=(Zk7 Q ls).take (k+1):=by
 rw[Qw];unfold Zk7;rw[Qd,Qa hk];rfl
end
theorem Z0i{P:Program}(t e:TypeId){i:TypeInfo}(ht:P.underlying t=some (.slice e))(hi:P.info? e=some i)(hz:i.zero=some (.agg #[.bool false,.slice none 0 0,.bool false,.slice none 0 0]))(hs:i.size=4)(hb:i.bytes=64)
    (n:Nat) (hn:n<=1000000000000) (W:World) :
    (Instr.makeSlice t (.int .i64 0) (.int .i64 (n:Int))).run P W=.ok (.slice (some ⟨W.heap.size,0,none⟩) 0 n) (W.alloc (.cells (Zz (Ql n Zaw)) e)):=by
 have hr:=run_make (P:=P) W t e i _ ht hi hz .i64 .i64 0 n (by omega) (by omega) (by rw[hb];omega) (by omega);simp only[Int.toNat_natCast,Int.toNat_zero]at hr;rw[hr,hs,Zhh]
theorem Zv4(t:TypeId)(w:World)(n:Nat)(hn:n<=maxLen):OwnF t (w.alloc (.cells (Zz (Ql n Zaw)) t)) w.heap.size (.slice (some ⟨w.heap.size,0,none⟩) 0 n) []:=
 ⟨[],.inr ⟨w.heap.size,n,by rw[QS,QG],Qc _,by rw[QS,QG];exact hn,by rw[List.nil_append];exact Qp _ _ _⟩,λe he=>(by cases he),rfl⟩
open Go.ChangeShapes Go.WideShapes Go.Deep Go.RowKit
section
variable{H:Type}{enc:TypeId × Value->H}{P:Program}{w:World}{base:Nat}{spare:Nat->Bool}{held:Bool}
end
section
variable{H:Type}{enc:TypeId × Value->H}{P:Program}
theorem Znz{f:Func}{s:ChangeSpec}{apart fresh handsOn again:Bool}{W W':World}{args:Array Value}{v:Value}{ds gs:List (DataW H)}{before pa pv:List MemPlace}
    (hW:DataW.Whole enc P f.params.toList s.vars apart W args.toList ds gs before)
    (hres:∀ (b:Nat) (sp:Nat->Bool) (hd:Bool),DataW.TrodAll enc P W' b sp hd f.resultTypes.toList (v.resultList f.resultTypes.size) (s.fn H (ds++gs)).results [])
    (hargs:∀ sp:Nat->Bool,(∀ p ∈ before,sp p.block=true)->DataW.TrodAll enc P W' 0 sp true f.params.toList args.toList (s.fn H (ds++gs)).args pa)
    (hvars:∀ sp:Nat->Bool,(∀ p ∈ before,sp p.block=true)->DataW.TrodVars enc P W' sp s.vars (s.fn H (ds++gs)).vars pv)
    (hps:before=pa++pv) (hb:Below W.heap.size W W')
    (hok:∀ (j:Nat) (t:TypeId) (r:Value),f.resultTypes[j]?=some t->(v.resultList f.resultTypes.size)[j]?=some r->Value.okWide P W' .any 0 t r) :
    s.post enc P f apart fresh handsOn again W args v W':=by
 have h:∀ p ∈ before,p.block<W.heap.size:=λp hp=>hW.lt p hp;have e:∀ p ∈ before,(λb=>decide (b<W.heap.size)) p.block=true:=λp hp=>by simpa using h p hp
 refine⟨ds,gs,before,[],pa,pv,hW,hres _ _ _,hargs _ e,hvars _ e,World.keptBut_mono (λp hp=>⟨hp,?_⟩) (hb.frame (· ∈ before)),λ_=>?_⟩
 ·rw[hps,List.mem_append]at hp
  exact Or.inr hp
 ·obtain⟨_,_,_,_,_,hz,hn⟩:=hW
  refine⟨hok,_,_,([]++pa)++pv,⟨[]++pa,pv,trodAll_append (hargs _ (λ_ _=>rfl)) (hres _ _ _),hvars _ (λ_ _=>rfl),rfl,?_,?_⟩,?_⟩
  ·intro b off hp
   have o:MemPlace.cell b off ∈ before:=by rw[hps];simpa using hp
   rw[hb.frozen (h _ o)];exact hz b off o
  ·intro ha
   have:=hn ha;rw[hps]at this;simpa using this
  ·intro p hp _
   rw[hps];simpa using hp
end
theorem Zvq{α:Type}(P:Nat->α->Prop)(n:Nat)(h:∀ i,i<n->∃ e,P i e):∃ es:List α,es.length=n/\∀ (k:Nat) (e:α),es[k]?=some e->P k e:=by
 induction n with
 | zero=>exact⟨[],rfl,λk e h=>by simp at h⟩
 | succ n ih =>
  obtain⟨es,h1,h2⟩:=ih λi hi=>h i (by omega);obtain⟨e,he⟩:=h n (by omega);refine⟨es ++ [e],by simp[h1],λk e' hk=>?_⟩;rcases Qr k es.length with o|f;rw[List.getElem?_append_left o]at hk;exact h2 k e' hk
  ·rw[List.getElem?_append_right f]at hk
   rcases Nat.eq_or_lt_of_le f with h0|h0
   ·rw[show k-es.length=0 by omega]at hk
    simp at hk;subst hk;rw[<- h0,h1];exact he
   ·rw[Qg (by simp;omega)]at hk
    cases hk
section
variable{H:Type}{enc:TypeId × Value->H}{w:World}{base:Nat}{spare:Nat->Bool}{held:Bool}
end
theorem Fr.rawC{w:World}{na:Bool}{A:Option Addr}{n c:Nat}{nb:Bool}{B:Option Addr}{m d:Nat}{r:Rat}(h:Fr w na A n c nb B m d r):okF na (digits r.num.natAbs) nb (digits r.den)=true/\qOf na (digits r.num.natAbs) (digits r.den)=r:=by
 have h1:=h.1.ok;have h2:=h.2.ok;have h3:=h.1.sgEq;rw[Qq]at h2;have hd:=r.den_pos;have hr:=r.reduced;unfold Nat.Coprime at hr;refine⟨?_,?_⟩
 ·unfold okF
  rw[h1,h2,h.neg,Zj,Zj];simp[length_digits_pos,hd,hr]
 ·unfold qOf
  rw[h3,Zj];exact Qt r
def Zp1(q:Rat):Nat:=max (digits q.num.natAbs).length (digits q.den).length
def Zkt(e:FX):Nat × Bool × Rat:=(e.few,e.ok,e.q)
def Zli(r:RX):Nat × List (Nat × Bool × Rat):=(r.n,r.es.map Zkt)
def Zew(rs:List RX):List (Nat × List (Nat × Bool × Rat)):=rs.map Zli
def Ze1(Q:List (List Rat)):List (Nat × List (Nat × Bool × Rat)):=Q.map λr=>(r.length,r.map λq=>(Zp1 q,true,q))
theorem Z03{rs:List RX}:qM rs=(Zew rs).map λx=>x.2.map λy=>y.2.2:=by
 unfold qM Zew;rw[Qy];refine Qn λr _=>?_;simp[Zli,Zkt,Function.comp_def]
theorem Zqu{rs:List RX}:long6 rs=(decide (6<(Zew rs).length) || (Zew rs).any λx=>decide (6<x.1)):=by
 unfold long6 Zew;rw[Qz,List.any_map];rfl
theorem sig_row{k:Nat}{r:RX}:Zer k r=(decide ((Zli r).1=k) && (Zli r).2.all λy=>decide (y.1<=64) && y.2.1):=by
 unfold Zer Zdi Zli;simp only[List.all_map];rfl
theorem Zri{k:Nat}{rs:List RX}:rs.all (Zer k)=(Zew rs).all λx=>decide (x.1=k) && x.2.all λy=>decide (y.1<=64) && y.2.1:=by
 unfold Zew;rw[List.all_map];congr 1
 funext r
 exact sig_row
theorem FL.fxs{w:World}{A:Option Addr}{n c:Nat}{qs:List Rat}(h:FL w A n c qs):∃ es,FXL w A n c es/\es.map FX.q=qs/\es.map Zkt=qs.map λq=>(Zp1 q,true,q):=by
 obtain⟨fs,h1,h2,h3,h4,rfl,h5⟩:=h
 have hk:∀ e ∈ fs,FX.in_ w ⟨e.na,e.A,e.n,e.c,digits e.q.num.natAbs,e.nb,e.B,e.m,e.d,digits e.q.den⟩/\FX.q ⟨e.na,e.A,e.n,e.c,digits e.q.num.natAbs,e.nb,e.B,e.m,e.d,digits e.q.den⟩=e.q/\Zkt ⟨e.na,e.A,e.n,e.c,digits e.q.num.natAbs,e.nb,e.B,e.m,e.d,digits e.q.den⟩=(Zp1 e.q,true,e.q):=λe he=>by
  have h0:Fr w e.na e.A e.n e.c e.nb e.B e.m e.d e.q:=h4 e he;have h2:=h0.2.2.2;rw[Qq]at h2;have h6:=h0.rawC;refine⟨⟨h0.1.2.2,h2⟩,h6.2,?_⟩;unfold Zkt FX.few FX.ok FX.q Zp1;rw[h6.1,h6.2];have e1:=h0.1.2.2.len;have e2:=h2.len;rw[e1,e2]
 refine⟨fs.map λe=>⟨e.na,e.A,e.n,e.c,digits e.q.num.natAbs,e.nb,e.B,e.m,e.d,digits e.q.den⟩,⟨by rw[Qz];exact h1,h2,h3,λx hx=>?_,λhn=>?_⟩,?_,?_⟩
 ·obtain⟨e,he,rfl⟩:=List.mem_map.1 hx
  exact(hk e he).1
 ·obtain⟨g,o,e1,hc⟩:=h5 hn
  refine⟨g,o,e1,λk x hx=>?_⟩;rw[Qd]at hx;obtain⟨e,he,rfl⟩:=Option.map_eq_some_iff.1 hx;exact hc k e he
 ·rw[Qy]
  exact Qn λe he=>(hk e he).2.1
 ·rw[Qy,Qy]
  exact Qn λe he=>(hk e he).2.2
theorem MFL.mxs{w:World}{A:Option Addr}{n c:Nat}{Q:List (List Rat)}(h:MFL w A n c Q):∃ rs,MXL w A n c rs/\qM rs=Q/\Zew rs=Ze1 Q:=by
 obtain⟨h1,h2,h3,h4⟩:=h;rcases QH n with h0|h0
 ·subst h0
  obtain rfl:Q=[]:=QA h1;exact⟨[],⟨rfl,h2,h3,λr hr=>(by cases hr),λhn=>absurd hn (Nat.lt_irrefl _)⟩,rfl,rfl⟩
 ·obtain⟨g,o,rfl,hc⟩:=h4 h0
  obtain⟨rs,r1,r2⟩:=Zvq (λi (r:RX)=>w.cell? ⟨g,o+i,none⟩=some (.slice r.A r.n r.c)/\FXL w r.A r.n r.c r.es/\r.es.map FX.q=Q[i]?.getD []/\Zli r=((Q[i]?.getD []).length,(Q[i]?.getD []).map λq=>(Zp1 q,true,q))) n (λi hi=>by
   have hq:Q[i]?=some Q[i]:=Qa (by omega);obtain⟨A',n',c',k0,hF⟩:=hc i _ hq;obtain⟨es,e1,e2,e3⟩:=hF.fxs;refine⟨⟨A',n',c',es⟩,k0,e1,by rw[hq];exact e2,?_⟩;rw[hq,Qh];unfold Zli;rw[e3,hF.len])
  have ext:∀ {α:Type} (f:RX->α) (g:List Rat->α),(∀ (i:Nat) (r:RX),rs[i]?=some r->f r=g (Q[i]?.getD []))->rs.map f=Q.map g:=λf g hfg=>by
   apply QN;intro i;rw[Qd,Qd];by_cases hi:i<n
   ·have hr:=Qa (l:=rs) (i:=i) (by omega)
    have hq:Q[i]?=some Q[i]:=Qa (by omega);have:=hfg i _ hr;rw[hq,Qh]at this;rw[hr,hq,Qk,Qk,this]
   rw[Qg (l:=rs) (by omega),Qg (l:=Q) (by omega)];rfl
  refine⟨rs,⟨r1,h2,h3,λr hr=>?_,λ_=>⟨g,o,rfl,λk r hk=>(r2 k r hk).1⟩⟩,?_,ext Zli (λr=>(r.length,r.map λq=>(Zp1 q,true,q))) (λi r hr=>(r2 i r hr).2.2.2)⟩
  ·obtain⟨k,hk,rfl⟩:=Qs hr
   exact(r2 k _ (Qa hk)).2.1
  ·have:=ext (λr=>r.es.map FX.q) id (λi r hr=>(r2 i r hr).2.2.1)
   rw[List.map_id]at this;exact this
def gI(l:List Int)(i:Nat):Int:=l[i]?.getD 0
def imT(Q:Nat->Nat->Rat)(n:Nat)(a b:List Int)(i k:Nat):Rat:=
 Zax i (λr=>Zax n (λt=>Q r t*(gI a r:Rat)*(gI b t:Rat)))+Zax k (λt=>Q i t*(gI a i:Rat)*(gI b t:Rat))
section
variable{Q:Nat->Nat->Rat}{n:Nat}{a b:List Int}{i k:Nat}
theorem Zrc:imT Q n a b 0 0=0:=by unfold imT;simp only[Zax];grind
theorem Zso:imT Q n a b i (k+1)=imT Q n a b i k+Q i k*(gI a i:Rat)*(gI b k:Rat):=by unfold imT;simp only[Zax];grind
theorem Zqk:imT Q n a b (i+1) 0=imT Q n a b i n:=by unfold imT;simp only[Zax];grind
theorem Zw6:imT Q n a b 0 0=((0:Int):Rat):=by rw[Zrc];rfl
end
theorem Zu1(R:List (List Rat)){i:Nat}:∀ {n:Nat},i<n->denAt R i ∣ byZ R n
 | n+1,h=>by
  show denAt R i ∣ byZ R n*denAt R n;rcases Qr i n with h1|h1;exact Nat.dvd_trans (Zu1 R h1) (Nat.dvd_mul_right _ _)
  ·obtain rfl:i=n:=by omega
   exact Nat.dvd_mul_left _ _
theorem Zv6(R:List (List Rat))(i j:Nat):(Zh R i j).den ∣ denAt R i:=by
 unfold Zh denAt;rcases Qr j (R[i]?.getD []).length with h|h;exact Zig _ h
 ·rw[Qg h]
  exact Nat.one_dvd _
theorem Zws{q:Rat}{d:Nat}(h:q.den ∣ d):BndQ (d*q.num.natAbs) ((d:Nat)*q):=by
 obtain⟨c,rfl⟩:=h
 have e1:((q.den:Nat):Rat)≠0:=by
  intro h;have:q.den=0:=by exact_mod_cast h
  have:=q.den_pos;omega
 have e2:((q.den:Nat):Rat)*q=((q.num:Int):Rat):=by
  have e0:((q.num:Int):Rat)/((q.den:Nat):Rat)=q:=by have:=Qt q;rw[Rat.divInt_eq_div,Qo]at this;exact this
  have:((q.num:Int):Rat)/((q.den:Nat):Rat)*((q.den:Nat):Rat)=((q.num:Int):Rat):=by grind
  rw[e0]at this;rw[<- this];grind
 refine⟨(c:Int)*q.num,?_,?_⟩;rw[Rat.intCast_mul,<- e2,Qo,Rat.natCast_mul];grind
 ·rw[Int.natAbs_mul,Qq]
  exact Qm (Nat.le_mul_of_pos_left _ q.den_pos) (Qc _)
theorem Zpj{x:Int}(h:Zlj x=false):x.natAbs<=pw 2:=by
 unfold Zlj at h;rw[QD]at h;have h1:=of_decide_eq_false h.1;have h2:=of_decide_eq_false h.2;have h3:1099511627776<=pw 2:=by decide +kernel
 omega
def Zgd(l:List Int):Prop:=∀ k,Zlj (gI l k)=false
section
variable{R:List (List Rat)}{n:Nat}{a b:List Int}
theorem Zp9(hS:SmE 4 R)(hn:n<=4)(hl:R.length=n)(hrow:∀ i,i<n->(R[i]?.getD []).length=n)(ha:Zgd a)(hb:Zgd b):0<byZ R n/\byZ R n<=pw 64/\∀ i k,i<n->k<=n->BndQ ((i*n+k)*pw 72) ((byZ R n:Nat)*imT (Zh R) n a b i k):=by
 have hD:byZ R n<=pw 64:=Qf (hS.byZ hrow n (Qc _)) (Zb4 (by
  have h1:4*n*n<=16*n:=Qm (by omega) (Qc _);omega))
 have f:∀ i k,i<n->BndQ (pw 72) ((byZ R n:Nat)*(Zh R i k*(gI a i:Rat)*(gI b k:Rat))):=λi k hi=>by
  have h1:=Zws (Nat.dvd_trans (Zv6 R i k) (Zu1 R hi));have h2:BndQ (pw 2) (gI a i:Rat):=⟨gI a i,rfl,Zpj (ha i)⟩;have h3:BndQ (pw 2) (gI b k:Rat):=⟨gI b k,rfl,Zpj (hb k)⟩;have h4:=(h1.mul h2).mul h3;have e:((byZ R n:Nat):Rat)*(Zh R i k*(gI a i:Rat)*(gI b k:Rat))=((byZ R n:Nat):Rat)*Zh R i k*(gI a i:Rat)*(gI b k:Rat):=by grind
  rw[e];refine h4.mono ?_;have h5:byZ R n*(Zh R i k).num.natAbs<=pw 64*pw 4:=Qm hD (hS i k).1;have h6:byZ R n*(Zh R i k).num.natAbs*pw 2*pw 2<=pw 64*pw 4*pw 2*pw 2:=Qm (Qm h5 (Qc _)) (Qc _);rw[<- Zcs,<- Zcs,<- Zcs]at h6;exact h6
 refine⟨Zvf R n,hD,?_⟩
 have step:∀ i,i<n->BndQ (i*n*pw 72) ((byZ R n:Nat)*imT (Zh R) n a b i 0)->∀ k,k<=n->BndQ ((i*n+k)*pw 72) ((byZ R n:Nat)*imT (Zh R) n a b i k):=λi hi h0 k=>by
  induction k with
  | zero=>intro _;rw[Nat.add_zero];exact h0
  | succ k ih =>
   intro hk;have h1:=(ih (by omega)).add (f i k hi);rw[Zso];have e:((byZ R n:Nat):Rat)*(imT (Zh R) n a b i k+Zh R i k*(gI a i:Rat)*(gI b k:Rat))=((byZ R n:Nat):Rat)*imT (Zh R) n a b i k+((byZ R n:Nat):Rat)*(Zh R i k*(gI a i:Rat)*(gI b k:Rat)):=by grind
   rw[e];refine h1.mono ?_;rw[<- Nat.succ_mul];exact Qc _
 have start:∀ i,i<n->BndQ (i*n*pw 72) ((byZ R n:Nat)*imT (Zh R) n a b i 0):=λi=>by
  induction i with
  | zero =>
   intro _;rw[Zrc];have e:((byZ R n:Nat):Rat)*0=0:=by grind
   rw[e];exact BndQ.zero.mono (Qc _)
  | succ i ih =>
   intro hi;rw[Zqk];have h1:=step i (by omega) (ih (by omega)) n (Qc _);refine h1.mono ?_;rw[<- Nat.succ_mul];exact Qc _
 exact λi k hi hk=>step i hi (start i hi) k hk
theorem Zu3(hS:SmE 4 R)(hn:n<=4)(hl:R.length=n)(hrow:∀ i,i<n->(R[i]?.getD []).length=n)(ha:Zgd a)(hb:Zgd b)(h0:0<n){i k:Nat}(hi:i<=n)(hk:k<=n)(hik:i=n->k=0):BndQ (pw 73) ((byZ R n:Nat)*imT (Zh R) n a b i k):=by
 have f:∀ x,x<=16->x*pw 72<=pw 73:=λx hx=>by
  have e:pw 73=4294967296*pw 72:=Za3 72;rw[e];exact Nat.mul_le_mul_right _ (by omega)
 obtain⟨-,-,h⟩:=Zp9 hS hn hl hrow ha hb;rcases Qr i n with h1|h1
 ·refine(h i k h1 hk).mono (f _ ?_)
  have h2:i*n<=3*4:=Qm (by omega) hn;omega
 ·obtain rfl:i=n:=by omega
  rw[hik rfl];obtain⟨j,rfl⟩:∃ j,i=j+1:=⟨i-1,by omega⟩;rw[Zqk];refine(h j (j+1) (by omega) (Qc _)).mono (f _ ?_);have h2:j*(j+1)<=3*4:=Qm (by omega) hn;omega
theorem Zv1{D B:Nat}{q:Rat}(hD:0<D)(h:BndQ B ((D:Nat)*q)):q.num.natAbs<=B/\q.den<=D:=by
 have f:((D:Nat):Rat)≠0:=λe=>by
  have:D=0:=by exact_mod_cast e
  omega
 exact Ze0 h ⟨(D:Int),by rw[Qo],by simp⟩ f
theorem imT_sm(hS:SmE 4 R)(hn:n<=4)(hl:R.length=n)(hrow:∀ i,i<n->(R[i]?.getD []).length=n)(ha:Zgd a)(hb:Zgd b)(h0:0<n){i k:Nat}(hi:i<=n)(hk:k<=n)(hik:i=n->k=0):Sm (imT (Zh R) n a b i k):=by
 obtain⟨d1,d2,-⟩:=Zp9 hS hn hl hrow ha hb;obtain⟨h1,h2⟩:=Zv1 d1 (Zu3 hS hn hl hrow ha hb h0 hi hk hik);exact⟨QI h1 (Zc4 (by decide)),QI (Qf h2 d2) (Zc4 (by decide))⟩
def Zd7(Q:Nat->Nat->Rat)(n:Nat)(js:List (List Int))(a:List Int):List Rat:=js.map λb=>imT Q n a b n 0
def Zgg(Q:Nat->Nat->Rat)(n:Nat)(js:List (List Int)):List (List Rat):=js.map (Zd7 Q n js)
theorem Zi7{Q:Nat->Nat->Rat}{js:List (List Int)}{a:List Int}:(Zd7 Q n js a).length=js.length:=by simp[Zd7]
theorem Zfx{Q:Nat->Nat->Rat}{js:List (List Int)}:(Zgg Q n js).length=js.length:=by simp[Zgg]
theorem Z0l{Q:Nat->Nat->Rat}{js:List (List Int)}{i k:Nat}(hi:i<js.length)(hk:k<js.length):Zh (Zgg Q n js) i k=imT Q n (js[i]?.getD []) (js[k]?.getD []) n 0:=by
 unfold Zh Zgg Zd7;rw[Qd,Qa hi,Qk,Qh,Qd,Qa hk];rfl
theorem Zrp{Q:Nat->Nat->Rat}{js:List (List Int)}{i:Nat}(hi:i<js.length):((Zgg Q n js)[i]?.getD []).length=js.length:=by
 unfold Zgg;rw[Qd,Qa hi,Qk,Qh,Zi7]
theorem Zrd{Q:Nat->Nat->Rat}{js:List (List Int)}{a:List Int}{k:Nat}(hk:k<js.length):(Zd7 Q n js a).take k ++ [imT Q n a (js[k]?.getD []) n 0]=(Zd7 Q n js a).take (k+1):=by
 rw[Qw];unfold Zd7;rw[Qd,Qa hk];rfl
theorem Zv2{Q:Nat->Nat->Rat}{js:List (List Int)}{k:Nat}(hk:k<js.length):(Zgg Q n js).take k ++ [Zd7 Q n js (js[k]?.getD [])]=(Zgg Q n js).take (k+1):=by
 rw[Qw];unfold Zgg;rw[Qd,Qa hk];rfl
theorem img_fac{js:List (List Int)}(hS:SmE 4 R)(hn:n<=4)(hl:R.length=n)(hrow:∀ i,i<n->(R[i]?.getD []).length=n)(h0:0<n)(hj:∀ a ∈ js,Zgd a)(hm:js.length<=4){rs:List RX}(hq:qM rs=Zgg (Zh R) n js)(hm0:rs.length=js.length):FacC rs:=λhV hs=>by
 obtain⟨d1,d2,-⟩:=Zp9 (a:=[]) (b:=[]) hS hn hl hrow (λk=>by simp[gI,Zlj]) (λk=>by simp[gI,Zlj]);rw[hm0];refine FacP.unif (D:=byZ R n) (b:=73) (e:=64) (by rw[hq,Zfx]) (by omega) (λi hi=>by rw[hq];exact Zrp hi) (λi k hi hk=>symB_iff.1 hs i k (by rw[hq,Zfx];exact hi) (by rw[hq,Zfx];exact hk)) d1 d2 (λi j hi=>?_) (by omega) (by omega);rcases Qr j js.length with h1|h1
 ·rw[hq,Z0l hi h1]
  have e1:Zgd (js[i]?.getD []):=by rw[Qa hi];exact hj _ (Qx _)
  have e2:Zgd (js[j]?.getD []):=by rw[Qa h1];exact hj _ (Qx _)
  exact Zu3 hS hn hl hrow e1 e2 h0 (Qc _) (Nat.zero_le _) (λ_=>rfl)
 ·have:Zh (qM rs) i j=0:=by
    unfold Zh;rw[Qg (by rw[hq,Zrp hi];exact h1)];rfl
  rw[this];have e:((byZ R n:Nat):Rat)*0=0:=by grind
  rw[e];exact BndQ.zero
end
theorem inv_CD{B n:Nat}{Q X:Nat->Nat->Rat}(hQ:∀ a b,a<n->b<n->BndQ B (Q a b))(hB:1<=B)(hE:∀ c i,c<n->i<n->Zax n (λj=>Q i j*X j c)=if i=c then 1 else 0)(h0:Zau n Q≠0) :
    ∃ D,0<D/\D<=Zbn B n/\∀ c k,c<n->k<n->CD D (Zbn B n) (X k c):=by
 obtain⟨d,hd,u⟩:=Zhj hQ;have y:d≠0:=λe=>h0 (by rw[hd,e];rfl);refine⟨d.natAbs,by omega,u,λc k hc hk=>?_⟩;have f:=Zz5 Q (λj=>X j c) (λi=>if i=c then 1 else 0) (λi hi=>hE c i hc hi) hk
 obtain⟨z,hz,o⟩:=Zhj (B:=B) (n:=n) (M:=λa b=>if b=k then (if a=c then 1 else 0)else Q a b) (λa b ha hb=>by
  show BndQ B (if b=k then (if a=c then 1 else 0)else Q a b);by_cases h:b=k
  ·rw[Gx h]
   by_cases h2:a=c;rw[Gx h2];exact⟨1,rfl,by simpa using hB⟩;rw[Gw h2];exact⟨0,rfl,by simp⟩
  ·rw[Gw h];exact hQ a b ha hb)
 rw[hz,hd]at f;have C:(d:Rat)≠0:=λe=>y (by exact_mod_cast e);rcases Int.natAbs_eq d with h|h
 ·refine⟨z,?_,o⟩
  have h1:((d.natAbs:Nat):Rat)=(d:Rat):=by rw[<- Qo,<- h]
  rw[h1,<- f]
  grind
 ·refine⟨-z,?_,by rw[Int.natAbs_neg];exact o⟩
  have h1:((d.natAbs:Nat):Rat)=-(d:Rat):=by
   rw[<- Qo,show ((d.natAbs:Nat):Int)=-d by omega,QT]
  rw[h1,QT,<- f]
  grind
def Zd6:Rat:=((1000000000000000000:Int):Rat)
def ofQ(X:Nat->Nat->Rat)(m:Nat):List (List Rat):=(Qv m).map λi=>(Qv m).map λc=>X i (m+c)*Zd6
section
variable{rs:List RI}{rr ws:List Int}{n m:Nat}
theorem Zf9{i:Nat}(hi:i<m):((Zc1 rs ws n m)[i]?.getD []).length=m:=by rw[Z0z hi,Zs6]
theorem Zkx{i j:Nat}(hi:i<m)(hj:j<m):Zh (Zc1 rs ws n m) i j=Zee rs ws n i j:=by
 unfold Zh Zc1;rw[Qd,QF hi,Qk,Qh,Qd,QF hj];rfl
theorem Zm4(hn:n<=200)(hE:Zdx rs rr ws=0)(i j:Nat):BndQ (pw 4) (Zee rs ws n i j):=by
 obtain⟨b1,b2,b3⟩:=sys_b40 hE;exact⟨_,rfl,Zzy hn λr _=>⟨b3 r,b1 r i,b1 r j⟩⟩
theorem Zyb(hn:n<=200)(hE:Zdx rs rr ws=0)(i j:Nat):BndQ (pw 4) (Zh (Zbc (Zc1 rs ws n m) m m 0) i j):=by
 have h0:BndQ (pw 4) (0:Rat):=BndQ.zero;have h1:BndQ (pw 4) (1:Rat):=⟨1,rfl,Zb2 4⟩;rw[Zgs (λi hi=>Zf9 hi) (Zjq _ _ _ _)];by_cases hi:i<m
 ·rw[Gx hi]
  by_cases hj:j<m;rw[Gx hj,Zkx hi hj];exact Zm4 hn hE i j
  ·rw[Gw hj]
   split
   ·split
    exact h1;exact h0
   exact h0
 rw[Gw hi];exact h0
def OfP(rs:List RI)(ws:List Int)(n m:Nat)(X:Nat->Nat->Rat):Prop:=
 (∀ c i,c<m->i<m->Zax m (λj=>Zee rs ws n i j*X j (m+c))=if i=c then 1 else 0)/\∃ D,0<D/\D<=pw (5*m)/\∀ c k,c<m->k<m->CD D (pw (5*m)) (X k (m+c))
theorem Zuy(hn:n<=200)(hm:m<=12)(hE:Zdx rs rr ws=0) :
    okZ (pw 200) (m+m) m 0 0 (Z8 (Zbc (Zc1 rs ws n m) m m 0)) 1/\okR (pw 200) (pw 200) (m+m) m 0 0 (Zbc (Zc1 rs ws n m) m m 0)/\Zrh (Zbc (Zc1 rs ws n m) m m 0) m (m+m) /\
    (Zar m 0 0 (Z8 (Zbc (Zc1 rs ws n m) m m 0)) false 1).2.1=(Zbd m 0 0 (Zbc (Zc1 rs ws n m) m m 0) false).2.1/\(Zbd m 0 0 (Zbc (Zc1 rs ws n m) m m 0) false).2.1<=m /\
    ((Zbd m 0 0 (Zbc (Zc1 rs ws n m) m m 0) false).2.1<m->Zau m (Zee rs ws n)=0) /\
    ((Zbd m 0 0 (Zbc (Zc1 rs ws n m) m m 0) false).2.1=m->Zau m (Zee rs ws n)≠0/\∃ X:Nat->Nat->Rat,Zg6 (Zh (Zbd m 0 0 (Zbc (Zc1 rs ws n m) m m 0) false).1) X m (m+m)/\Zg6 (λi j=>(Zah (Zar m 0 0 (Z8 (Zbc (Zc1 rs ws n m) m m 0)) false 1).1 i j:Rat)) X m (m+m)/\OfP rs ws n m X):=by
 have e:∀ i,i<m->((Zbc (Zc1 rs ws n m) m m 0)[i]?.getD []).length=m+m:=λi hi=>by
  rw[Zkp hi,Gx hi,QJ,Zf9 hi];simp[Zf1]
 obtain⟨o1,o2,o3,o4,o5,o6,o7⟩:=Zqb (b:=4) (n:=m) (m:=m+m) (R:=Zbc (Zc1 rs ws n m) m m 0) (λi j=>Zyb hn hE i j) (Zo3 _ _ _ _) (by omega) e (by omega) (by omega) (by omega)
 have h:Zau m (Zh (Zbc (Zc1 rs ws n m) m m 0))=Zau m (Zee rs ws n):=Za4 λi j hi hj=>by
  rw[Zgs (λi hi=>Zf9 hi) (Zjq _ _ _ _),Gx hi,Gx hj,Zkx hi hj]
 rw[h]at o6 o7;refine⟨o1,o2,o3,o4,o5,o6,λhr=>?_⟩;obtain⟨x1,X,x2,x3,x4⟩:=o7 hr
 have hS:∀ c i,c<m->i<m->Zax m (λj=>Zee rs ws n i j*X j (m+c))=if i=c then 1 else 0:=λc i hc hi=>by
  have h6:=x4 i (m+c) hi (by omega) (by omega);rw[Zgs (λi hi=>Zf9 hi) (Zjq _ _ _ _),Gx hi,Gw (by omega),Nat.add_sub_cancel_left,Gx hc]at h6;rw[<- h6];exact Zan λj hj=>by rw[Zgs (λi hi=>Zf9 hi) (Zjq _ _ _ _),Gx hi,Gx hj,Zkx hi hj]
 obtain⟨D,d1,d2,d3⟩:=inv_CD (B:=pw 4) (n:=m) (Q:=Zee rs ws n) (X:=λj c=>X j (m+c)) (λa b _ _=>Zm4 hn hE a b) (Zb2 4) hS x1;have f:=Zj4 (b:=4) m (by omega);exact⟨x1,X,x2,x3,hS,D,d1,Qf d2 f,λc k hc hk=>(d3 c k hc hk).mono f⟩
end
attribute [local go_sem] Zg
theorem Zw4(A:Option Addr)(n c:Nat)(w:World)(hn:n<=maxLen) :
    Calls Tryz.prog 42 #[.slice A n c] w λe w'=>e=.returned (.bool (decide (6<n)))/\Below w.heap.size w w':=by
 unfold maxLen at hn;have hd:decide ((6:Int)<(n:Int))=decide (6<n):=decide_eq_decide.2 (by omega);go_enter Tryz.func42,Tryz.ntmps42;go_wp2_with fail;go_ret;exact⟨by first|rfl|simp[hd],by first|exact Qe _ _|exact Zf (Qe _ _) _⟩
def RI.long6(r:RI):Bool:=decide (6<r.n)
theorem Zxu(A:Option Addr)(n c:Nat)(rs:List RI)(w:World)(h:MIL w A n c rs)(b:Bool)(hb:rs.any RI.long6=b) :
    Calls Tryz.prog 79 #[.slice A n c,.func (.func 42) #[] #[]] w (IdxB w b):=by
 have hl:=h.1;have U:=h.2.1;have I:=h.2.2.1;unfold maxLen at I;replace hl:=Za hl;replace hb:=Za hb;replace h:=Za h;go_enter Tryz.func79,Tryz.ntmps79;go_wp2_with fail
 go_loopw [8] (λiv wr=>∃ i:Nat,i<=n/\iv=.int .i64 i/\Hid (∀ j e,j<i->rs[j]?=some e->e.long6=false)/\Below w.heap.size w wr) (λiv _=>n-(intOf iv).toNat)
 case atStart=>exact⟨0,Nat.zero_le _,rfl,Za (λj e hj=>by omega),Qe _ _⟩
 case round =>
  obtain⟨i,T,rfl,y,f⟩:=hrel;by_cases hin:i<n
  case neg =>
   obtain rfl:n=i:=by omega
   have J:decide ((n:Int)<(n:Int))=false:=by simp
   obtain rfl:b=false:=by
    rw[<- hb.out,List.any_eq_false];intro e he;obtain⟨j,hj,O⟩:=Qs he;have:=y.out j e (by rw[hl.out]at hj;exact hj) (by rw[Qa hj,O]);rw[this];decide
   go_wp2_with fail;go_ret;exact⟨-1,rfl,rfl,f⟩
  have J:decide ((i:Int)<(n:Int))=true:=Gv (by omega);obtain⟨g,o,r,rfl,he,c0,hL⟩:=(h.out.below f).at_ hin;have hC:=Za (λW1=>Zw4 r.A r.n r.c W1 hL.nlen);clear hL;by_cases hx:6<r.n
  ·obtain rfl:b=true:=by
     rw[<- hb.out,List.any_eq_true];exact⟨r,QE he,by unfold RI.long6;simpa using hx⟩
   rw[Gv hx]at hC;replace he:=Za he;go_wp2_with fail;refine(hC.out _).mono ?_;rintro e' w1 ⟨rfl,u⟩;go_wp2_with fail;go_ret;exact⟨i,rfl,by simp,(by first|exact f.trans (u.mono f.size)|exact(Zf f _).trans (u.mono f.size))⟩
  ·have C:Hid (∀ j e,j<i+1->rs[j]?=some e->e.long6=false):=Za (λj e' hj he'=>by
     rcases Qr j i with h'|h';exact y.out j e' h' he'
     ·obtain rfl:j=i:=by omega
      rw[he]at he';cases he';unfold RI.long6;simpa using hx)
   rw[Gu hx]at hC;replace he:=Za he;go_wp2_with fail;refine(hC.out _).mono ?_;rintro e' w1 ⟨rfl,u⟩;go_wp2_with fail
   go_roundw
   case rel=>exact⟨i+1,by omega,by go_num,C,(by first|exact f.trans (u.mono f.size)|exact(Zf f _).trans (u.mono f.size))⟩
   case measure=>simp[intOf];omega
theorem Zug(A:Option Addr)(n c:Nat)(rs:List RI)(w:World)(h:MIL w A n c rs)(b:Bool)(hb:rs.any RI.long6=b) :
    Calls Tryz.prog 41 #[.slice A n c,.func (.func 42) #[] #[]] w λe w'=>e=.returned (.bool b)/\Below w.heap.size w w':=by
 go_enter Tryz.func41,Tryz.ntmps41;go_wp2_with fail;refine(Zxu A n c rs w h b hb).mono ?_;rintro e w1 ⟨i,rfl,hi,f⟩;replace hi:=Za hi;go_wp2_with fail;go_ret;exact⟨Zdz hi.out,f⟩
def ofE(rs:List RI)(ws:List Int):Int:=if rs.any RI.long6=true then 4 else if Zdx rs (Ql (min rs.length 200) 0) ws≠0 then Zdx rs (Ql (min rs.length 200) 0) ws else if Zau (n0I rs) (Zee rs ws rs.length)=0 then 22 else 0
section
variable{rs:List RI}{ws:List Int}{E:Int}
theorem Zmj(h:rs.any RI.long6=true):ofE rs ws=4:=by unfold ofE;rw[Gx h]
theorem Zpp(h:rs.any RI.long6=false)(hE:Zdx rs (Ql (min rs.length 200) 0) ws=E)(h0:E≠0):ofE rs ws=E:=by
 unfold ofE;rw[Gw (by rw[h];decide),hE,Gx h0]
theorem Zpy(h:rs.any RI.long6=false)(hE:Zdx rs (Ql (min rs.length 200) 0) ws=0)(hd:Zau (n0I rs) (Zee rs ws rs.length)=0):ofE rs ws=22:=by
 unfold ofE;rw[Gw (by rw[h];decide),hE,Gw (by simp),Gx hd]
theorem Zz8(h:rs.any RI.long6=false)(hE:Zdx rs (Ql (min rs.length 200) 0) ws=0)(hd:Zau (n0I rs) (Zee rs ws rs.length)≠0):ofE rs ws=0:=by
 unfold ofE;rw[Gw (by rw[h];decide),hE,Gw (by simp),Gw hd]
end
def OfPost(rs:List RI)(ws:List Int)(X:Nat->Nat->Rat)(w:World)(e:Ending)(w':World):Prop:=
 Below w.heap.size w w'/\((ofE rs ws=0/\∃ rt,Zew rt=Ze1 (ofQ X (n0I rs))/\((Zaf rt=0/\∃ A c,e=.returned (.tuple #[.slice A (n0I rs) c,.int .i64 0])/\MFL w' A (n0I rs) c (ofQ X (n0I rs))) \/ (Zaf rt≠0/\e=.returned (.tuple #[.slice none 0 0,.int .i64 16])))) \/
  (ofE rs ws≠0/\e=.returned (.tuple #[.slice none 0 0,.int .i64 (ofE rs ws)])))
theorem OfPost.fall{rs:List RI}{ws:List Int}{X:Nat->Nat->Rat}{w w':World}{E:Int}(hb:Below w.heap.size w w')(h:ofE rs ws=E)(h0:E≠0):OfPost rs ws X w (.returned (.tuple #[.slice none 0 0,.int .i64 E])) w':=by
 subst h;exact⟨hb,.inr ⟨h0,rfl⟩⟩
def ScT(L L2:List RF)(m i k:Nat)(S:Rat):Prop:=
 L2.length=m/\L2.map RF.g=L.map RF.g/\(∀ (j:Nat) (r:RF),L2[j]?=some r->r.q.length=m)/\∀ j c,j<m->c<m->Zh (L2.map RF.q) j c=if j<i \/ (j=i/\c<k)then Zh (L.map RF.q) j c*S else Zh (L.map RF.q) j c
section
variable{L L2:List RF}{m i k:Nat}{S:Rat}
theorem ScT.start(hl:L.length=m)(hr:∀ (j:Nat) (r:RF),L[j]?=some r->r.q.length=m):ScT L L m 0 0 S:=
 ⟨hl,rfl,hr,λj c _ _=>by rw[Gw (by omega)]⟩
theorem ScT.step(h:ScT L L2 m i k S){r:RF}(hr:L2[i]?=some r)(hi:i<m)(hk:k<m){x:Rat}(hx:x=Zh (L.map RF.q) i k*S):ScT L (L2.set i ⟨r.g,r.c,r.q.set k x⟩) m i (k+1) S:=by
 obtain⟨h1,h2,h3,h4⟩:=h;have e:i<L2.length:=by omega
 have o:=h3 i r hr;refine⟨by rw[QU];exact h1,?_,λj s hs=>?_,λj c hj hc=>?_⟩;rw[Zjz (f:=RF.g) (s:=⟨r.g,r.c,r.q.set k x⟩) hr rfl];exact h2
 ·rw[QO]at hs
  by_cases hij:i=j
  ·subst hij
   rw[Gx rfl,Gx e]at hs;cases hs;rw[QU];exact o
  ·rw[Gw hij]at hs
   exact h3 j s hs
 ·rw[Znk,Zz7 e]
  have h5:=h4 j c hj hc;rw[Znk]at h5;by_cases hji:j=i
  ·subst hji
   rw[Gx rfl];rw[Zu2 hr]at h5;show (r.q.set k x)[c]?.getD 0=_;rw[QO];by_cases hkc:k=c
   ·subst hkc
    rw[Gx rfl,Gx (by omega),Gx (by omega),Qh];exact hx
   ·rw[Gw hkc,h5]
    by_cases hck:c<k;rw[Gx (by omega),Gx (by omega)];rw[Gw (by omega),Gw (by omega)]
  ·rw[Gw hji,h5]
   by_cases hj2:j<i;rw[Gx (by omega),Gx (by omega)];rw[Gw (by omega),Gw (by omega)]
theorem ScT.next(h:ScT L L2 m i m S):ScT L L2 m (i+1) 0 S:=by
 obtain⟨h1,h2,h3,h4⟩:=h;refine⟨h1,h2,h3,λj c hj hc=>?_⟩;rw[h4 j c hj hc];by_cases hj2:j<i+1;rw[Gx (by omega),Gx (by omega)];rw[Gw (by omega),Gw (by omega)]
theorem ScT.done(h:ScT L L2 m m 0 S):L2.map RF.q=(Qv m).map λj=>(Qv m).map λc=>Zh (L.map RF.q) j c*S:=by
 obtain⟨h1,h2,h3,h4⟩:=h;refine QQ (by simp[h1]) λj hj1 hj2=>?_;rw[Qz,h1]at hj1;have hs:L2[j]?=some L2[j]:=Qa (by omega);have hq:=h3 j _ hs;refine QQ (by simp[hq]) λc hc1 hc2=>?_;have hc:c<m:=by simpa [hq]using hc1
 have h5:=h4 j c hj1 hc;rw[Gx (by omega)]at h5
 have h6:Zh (L2.map RF.q) j c=(L2[j].q)[c]'(by omega):=by
  unfold Zh;rw[Qd,hs,Qk,Qh,Qa (by omega),Qh]
 rw[h6]at h5;simp[h5]
end
def InvZB(Q:List (List Rat))(n:Nat)(X:Nat->Nat->Rat)(w:World)(e:Ending)(w':World):Prop:=
 ((Zar n 0 0 (Z8 (Zbc Q n n 0)) false 1).2.1<n/\e=.returned (.tuple #[.slice none 0 0,.int .i64 18])/\Below w.heap.size w w') \/
 ((Zar n 0 0 (Z8 (Zbc Q n n 0)) false 1).2.1=n/\∃ gO L,e=.returned (.tuple #[.slice (some ⟨gO,0,none⟩) n n,.int .i64 0])/\Below w.heap.size w w'/\MatB 35 41 w' gO L/\L.map RF.q=Zjm X n (n+n)/\w.heap.size<=gO/\∀ r ∈ L,w.heap.size<=r.g)
theorem Zn0(A:Option Addr)(n c:Nat)(rs:List RX)(w:World)(h:MXL w A n c rs)(hs:sqE rs=0)(hn9:n<=12)(V:okZ (pw 200) (n+n) n 0 0 (Z8 (Zbc (qM rs) n n 0)) 1)(hfin:Zrh (Zbc (qM rs) n n 0) n (n+n))(a1:(Zar n 0 0 (Z8 (Zbc (qM rs) n n 0)) false 1).2.1<=n)
    (X:Nat->Nat->Rat) (hX:(Zar n 0 0 (Z8 (Zbc (qM rs) n n 0)) false 1).2.1=n->Zg6 (λi j=>(Zah (Zar n 0 0 (Z8 (Zbc (qM rs) n n 0)) false 1).1 i j:Rat)) X n (n+n)) :
    Calls Tryz.prog 43 #[.slice A n c] w (InvZB (qM rs) n X w):=by
 have hmx:=Gt
 have c1:(35:TypeId)≠41:=by decide
 obtain⟨a0,b6⟩:=Zxd hs;obtain⟨f1,f2,f3,f4,f5⟩:=Zi2 a0;have hl:=h.1;have b5:(qM rs).length=n:=Zus h;have J:=qM_row h a0;rw[show n0R rs=n by omega]at J;have O:=h.good a0;obtain⟨W0,b7,o,q0,s0⟩:=Zbe w 25 #[.slice A n c];have k0:=q0.cell 0;simp at k0;obtain⟨Q,hQ⟩:=Gz (qM rs);rw[hQ]at b5 J O V hfin a1;rw[hQ]at hX;replace hX:=Za hX;unfold InvZB;rw[hQ];have c0:1<=n:=by omega
 replace h:=Za (h.below o);replace hs:=Za hs;replace O:=Za (O.below o);replace J:=Za J;replace V:=Za V;replace a1:=Za a1;replace hfin:=Za hfin;clear f3 f4 f5 a0 b6;go_enter Tryz.func43,Tryz.ntmps43;go_wp2_with fail;(try rw[b7]);go_wp2_with fail;refine(Zrw A n c rs W0 h.out 0 hs.out).mono ?_;rintro e w1 ⟨rfl,C⟩;have q1:=Zc C q0;replace O:=Za (O.out.below C);clear k0;go_wp2_with fail;obtain⟨X0,a3⟩:=Gz w1.drew;have u:Below w1.heap.size w1 X0:=by rw[<- a3];exact Zf (Qe _ _) 1
 have f:Hid (∀ wx,Below w1.heap.size w1 wx->wx.cell? ⟨w.heap.size,0,none⟩=some (.slice A n c)):=Za (λwx hbx=>by
  have h1:=(q1.below hbx q1.lt).cell 0;simpa using h1)
 refine wp_heldS [] hmx f (by rw[a3];exact u) (λhxs=>?_);rw[a3];refine Zjw 4 [0,1,3,4] rfl (by kernel_rfl) (f.out _ u) ?_
 iterate 4 (refine tkA ?_;try simp only[Qb,Zg4,Zgk,Zgx,Gr,Gq,Gp])
 refine tk0 ?_;refine wpAnyL_o 2 λK hK=>?_;go_simp;refine(Zv5 81 (.pointer (some ⟨w.heap.size,0,none⟩)) A n c n n Q (λi=>Zf1 n i) X0 (O.out.below u) (by omega) J.out (by omega) (by omega) (by omega) (by omega) (λi hi=>Zh8 _ _) (λx W=>Zmq _ _ _) (λW i hbW hi=>Zsd w.heap.size A n c i W (((q1.below u q1.lt)).below hbW (q1.below u q1.lt).lt) (by omega) hi)).mono ?_;rintro e w3 ⟨go,L,rfl,b3,-,a8,b0,b1⟩
 have U:L.map RF.q=Zbc Q n n 0:=by
  rw[b1];unfold Zbc;refine Qn λj hj=>?_;rw[Gx (List.mem_range.1 hj)]
 have Y:=b0.mfl a8 (Qc n) (by unfold maxLen;omega);rw[U]at Y;have y:=u.trans (b3.mono u.size)
 have a2:∀ j,j<n->((Zbc Q n n 0)[j]?.getD []).length=n+n:=λj hj=>by
  rw[Zkp hj,Gx hj,QJ,J.out j hj,Zh8]
 replace Y:=Za Y;replace a2:=Za a2;refine hK.out _ _ (λ_=>f.out _ y) ?_;clear hK K b0 U b1 b3 a8
 try simp only[Qb,Zg4,Zgk,Zgx]
 by_cases T:(Zar n 0 0 (Z8 (Zbc Q n n 0)) false 1).2.1<n
 ·skip
  replace T:=Za T;refine wpAnyL_o 5 λK hK=>?_;go_simp;refine(Zzm (some ⟨go,0,none⟩) n n (n+n) (Zbc Q n n 0) w3 Y.out (by omega) (by omega) (by omega) (by omega) a2.out V.out hfin.out T.out).mono ?_;rintro e w5 ⟨rfl,a4⟩;have I:=y.trans (a4.mono y.size);refine hK.out _ _ (λ_=>f.out _ I) ?_;clear hK K
  try simp only[Qb,Zg4,Zgk,Zgx]
  refine Zgl 5 [6,7,8,9,10] rfl (by kernel_rfl) (f.out _ I) ?_
  iterate 5 (refine tkA ?_;try simp only[Qb,Zg4,Zgk,Zgx,Gr,Gq,Gp])
  refine tk0 ?_;refine wpAnyL_fin ?_;have a5:Below w.heap.size w w5:=o.trans (C.mono o.size |>.trans (I.mono (Qf o.size C.size)));clear hxs f u y;go_wp2_with fail;go_returns;exact .inl ⟨T.out,rfl,a5⟩
 ·skip
  have a6:Hid ((Zar n 0 0 (Z8 (Zbc Q n n 0)) false 1).2.1=n):=Za (Nat.le_antisymm a1.out (Nat.not_lt.1 T));clear T;refine wpAnyL_o 5 λK hK=>?_;go_simp;refine(Zyy (some ⟨go,0,none⟩) n n (n+n) (Zbc Q n n 0) w3 Y.out (by omega) (by omega) (by omega) (by omega) a2.out V.out hfin.out a6.out X (hX.out a6.out)).mono ?_;rintro e w5 ⟨gO,L5,rfl,a4,b9,a7,a9,b4⟩;have I:=y.trans (a4.mono y.size);have b2:Hid (w.heap.size<=gO/\∀ r ∈ L5,w.heap.size<=r.g):=Za ⟨Qf (Qf o.size (Qf C.size y.size)) b9,λr hr=>Qf (Qf o.size (Qf C.size y.size)) (b4 r hr)⟩;have b8:=Za (show MatB 35 41 w5 gO L5 from a7);refine hK.out _ _ (λ_=>f.out _ I) ?_;clear hK K
  try simp only[Qb,Zg4,Zgk,Zgx]
  refine Zgl 5 [6,7,8,9,10] rfl (by kernel_rfl) (f.out _ I) ?_
  iterate 5 (refine tkA ?_;try simp only[Qb,Zg4,Zgk,Zgx,Gr,Gq,Gp])
  refine tk0 ?_;refine wpAnyL_fin ?_;have a5:Below w.heap.size w w5:=o.trans (C.mono o.size |>.trans (I.mono (Qf o.size C.size)));clear hxs f u y;clear a7;go_wp2_with fail;go_returns;exact .inr ⟨a6.out,gO,L5,rfl,a5,b8.out,a9,b2.out.1,b2.out.2⟩
section
variable{H:Type}{enc:TypeId × Value->H}{w:World}{base:Nat}{spare:Nat->Bool}{held:Bool}
end
section
variable{H:Type}{enc:TypeId × Value->H}{w:World}{base:Nat}{spare:Nat->Bool}{held:Bool}
end
theorem Fr.raw{w:World}{na:Bool}{A:Option Addr}{n c:Nat}{nb:Bool}{B:Option Addr}{m d:Nat}{r:Rat}(h:Fr w na A n c nb B m d r):okF na (digits r.num.natAbs) nb (digits r.den)=true/\qOf na (digits r.num.natAbs) (digits r.den)=r:=by
 have h1:=h.1.ok;have h2:=h.2.ok;have h3:=h.1.sgEq;rw[Qq]at h2;have hd:=r.den_pos;have hr:=r.reduced;unfold Nat.Coprime at hr;refine⟨?_,?_⟩
 ·unfold okF
  rw[h1,h2,h.neg,Zj,Zj];simp[length_digits_pos,hd,hr]
 ·unfold qOf
  rw[h3,Zj];exact Qt r
def FE.fx(e:FE):FX:=⟨e.na,e.A,e.n,e.c,digits e.q.num.natAbs,e.nb,e.B,e.m,e.d,digits e.q.den⟩
def Sm8(q:Rat):Prop:=q.num.natAbs<pw 8/\q.den<pw 8
theorem FE.fx_ok{w:World}{e:FE}(h:e.in_ w)(hs:Sm8 e.q):e.fx.in_ w/\e.fx.fine=true/\e.fx.q=e.q:=by
 have h0:Fr w e.na e.A e.n e.c e.nb e.B e.m e.d e.q:=h;have h1:=h0.1.2.2;have h2:=h0.2.2.2;rw[Qq]at h2;refine⟨⟨h1,h2⟩,?_,h0.raw.2⟩;unfold FX.fine;rw[Bool.and_eq_true];refine⟨Gv ?_,h0.raw.1⟩;have a1:=(Zs _ 8).2 hs.1;have a2:=(Zs _ 8).2 hs.2;have b1:=h1.len;have b2:=h2.len;unfold FX.few FE.fx;simp only;omega
theorem FL.fxl{w:World}{A:Option Addr}{n c:Nat}{qs:List Rat}(h:FL w A n c qs)(hs:∀ q ∈ qs,Sm8 q):∃ es,FXL w A n c es/\es.map FX.q=qs/\Zex es=true:=by
 obtain⟨fs,h1,h2,h3,h4,rfl,h5⟩:=h;have hk:∀ e ∈ fs,e.fx.in_ w/\e.fx.fine=true/\e.fx.q=e.q:=λe he=>FE.fx_ok (h4 e he) (hs _ (List.mem_map_of_mem he));refine⟨fs.map FE.fx,⟨by rw[Qz];exact h1,h2,h3,λx hx=>?_,λhn=>?_⟩,?_,?_⟩
 ·obtain⟨e,he,rfl⟩:=List.mem_map.1 hx
  exact(hk e he).1
 ·obtain⟨g,o,e1,hc⟩:=h5 hn
  refine⟨g,o,e1,λk x hx=>?_⟩;rw[Qd]at hx;obtain⟨e,he,rfl⟩:=Option.map_eq_some_iff.1 hx;exact hc k e he
 ·rw[Qy]
  exact Qn λe he=>(hk e he).2.2
 ·unfold Zex
  rw[QR];intro x hx;obtain⟨e,he,rfl⟩:=List.mem_map.1 hx;exact(hk e he).2.1
theorem MFL.mxl{w:World}{A:Option Addr}{n c:Nat}{Q:List (List Rat)}(h:MFL w A n c Q)(hs:∀ r ∈ Q,∀ q ∈ r,Sm8 q):∃ rs,MXL w A n c rs/\qM rs=Q/\∀ (i:Nat) (r:RX),rs[i]?=some r->r.n=(Q[i]?.getD []).length/\Zex r.es=true:=by
 obtain⟨h1,h2,h3,h4⟩:=h;rcases QH n with h0|h0
 ·subst h0
  obtain rfl:Q=[]:=QA h1;exact⟨[],⟨rfl,h2,h3,λr hr=>(by cases hr),λhn=>absurd hn (Nat.lt_irrefl _)⟩,rfl,λi r hr=>(by simp at hr)⟩
 ·obtain⟨g,o,rfl,hc⟩:=h4 h0
  obtain⟨rs,r1,r2⟩:=Zvq (λi (r:RX)=>w.cell? ⟨g,o+i,none⟩=some (.slice r.A r.n r.c)/\FXL w r.A r.n r.c r.es/\r.es.map FX.q=Q[i]?.getD []/\Zex r.es=true/\r.n=(Q[i]?.getD []).length) n (λi hi=>by
   have hq:Q[i]?=some Q[i]:=Qa (by omega);obtain⟨A',n',c',k0,hF⟩:=hc i _ hq;obtain⟨es,e1,e2,e3⟩:=hF.fxl (hs _ (Qx _));exact⟨⟨A',n',c',es⟩,k0,e1,by rw[hq];exact e2,e3,by rw[hq];exact hF.len.symm⟩)
  refine⟨rs,⟨r1,h2,h3,λr hr=>?_,λ_=>⟨g,o,rfl,λk r hk=>(r2 k r hk).1⟩⟩,?_,λi r hr=>⟨(r2 i r hr).2.2.2.2,(r2 i r hr).2.2.2.1⟩⟩
  ·obtain⟨k,hk,rfl⟩:=Qs hr
   exact(r2 k _ (Qa hk)).2.1
  ·unfold qM
   apply QN;intro i;rw[Qd];by_cases hi:i<n
   ·have hr:=Qa (l:=rs) (i:=i) (by omega)
    have hq:Q[i]?=some Q[i]:=Qa (by omega);have:=(r2 i _ hr).2.2.1;rw[hq]at this;rw[hr,hq,Qk];exact congrArg some this
   rw[Qg (by omega),Qg (l:=Q) (by omega)];rfl
theorem Zzb{w:World}{A:Option Addr}{n c m:Nat}{rs:List RX}(h:MXL w A n c rs)(hn:0<n)(hn12:n<=12)(hm:0<m)(hm12:m<=12)(hr:∀ r ∈ rs,r.n=m/\Zex r.es=true):Zgv rs=0/\n0R rs=m:=by
 obtain⟨r0,f⟩:∃ r,rs[0]?=some r:=⟨_,Qa (by rw[h.1];exact hn)⟩
 have h0:n0R rs=m:=by
  unfold n0R;rw[f];exact(hr r0 (QE f)).1
 refine⟨?_,h0⟩;unfold Zgv
 have h1:Zhs rs=false:=by
  unfold Zhs;rw[QD];refine⟨Gu (by have:=h.1;omega),List.any_eq_false.2 λr e=>?_⟩;have:=(hr r e).1;simp[RX.long,this];omega
 rw[Gw (by simp[h1]),Gw (by omega),Gx ?_];rw[QR];intro r e;obtain⟨a1,a2⟩:=hr r e;unfold Zha;simp[a1,a2,h0]
def NumE(w:World)(z:Int)(e:Ending)(w':World):Prop:=
 Below w.heap.size w w'/\∃ neg A n c,e=.returned (.tuple #[.agg #[.bool neg,.slice A n c],.int .i64 0])/\Wd w' neg A n c z
def frP(q:Rat)(v:Value)(w:World):Prop:=∃ na A n c nb B m d,v=.tuple #[.agg #[.bool na,.slice A n c,.bool nb,.slice B m d],.int .i64 0]/\Fr w na A n c nb B m d q
def frV(q:Rat)(v:Value)(w:World):Prop:=∃ na A n c nb B m d,v=.agg #[.bool na,.slice A n c,.bool nb,.slice B m d]/\Fr w na A n c nb B m d q
def nmT(z:Int)(v:Value)(w:World):Prop:=∃ A n c,v=.agg #[.bool false,.slice A n c]/\Wd w false A n c z
def isV(x v:Value)(_:World):Prop:=v=x
def newV(B0:Nat)(t:TypeId)(cs:Array Value)(v:Value)(w:World):Prop:=∃ g,v=.pointer (some ⟨g,0,none⟩)/\B0<=g/\Blk w g t cs
def fl1V(q:Rat)(v:Value)(w:World):Prop:=∃ A c,v=.slice A 1 c/\FL w A 1 c [q]
def fl2V(p q:Rat)(v:Value)(w:World):Prop:=∃ A c,v=.slice A 2 c/\FL w A 2 c [p,q]
def Zao:List (Nat × (Value->World->Prop))->Nat->Value->World->Prop
 | [],_=>λ_ _=>True
 | (j,P)::l,i=>if i=j then P else Zao l i
def Zej(P:Value->World->Prop):Prop:=∀ v w w',Below w.heap.size w w'->P v w->P v w'
section
variable{q:Rat}{z:Int}{x:Value}{B0:Nat}{t:TypeId}{cs:Array Value}
theorem Zog:Zej (frP q):=λ_ _ _ hb ⟨na,A,n,c,nb,B,m,d,e,h⟩=>⟨na,A,n,c,nb,B,m,d,e,h.below hb⟩
theorem Zby:Zej (frV q):=λ_ _ _ hb ⟨na,A,n,c,nb,B,m,d,e,h⟩=>⟨na,A,n,c,nb,B,m,d,e,h.below hb⟩
theorem Zxc:Zej (nmT z):=λ_ _ _ hb ⟨A,n,c,e,h⟩=>⟨A,n,c,e,h.below hb⟩
theorem Zwv:Zej (isV x):=λ_ _ _ _ h=>h
theorem Ze9:Zej (newV B0 t cs):=λ_ _ _ hb ⟨g,e,k,h⟩=>⟨g,e,k,Zc hb h⟩
theorem Zeb:Zej (fl1V q):=λ_ _ _ hb ⟨A,c,e,h⟩=>⟨A,c,e,h.below hb⟩
theorem Znj{p:Rat}:Zej (fl2V p q):=λ_ _ _ hb ⟨A,c,e,h⟩=>⟨A,c,e,h.below hb⟩
theorem Zeh{l:List (Nat × (Value->World->Prop))}(h:∀ p ∈ l,Zej p.2)(i:Nat):Zej (Zao l i):=by
 induction l with
 | nil=>exact λ_ _ _ _ _=>trivial
 | cons p l ih =>
  unfold Zao;by_cases e:i=p.1;rw[Gx e];exact h p List.mem_cons_self;rw[Gw e];exact ih λr hr=>h r (List.mem_cons_of_mem _ hr)
theorem Ze6:∀ p ∈ ([]:List (Nat × (Value->World->Prop))),Zej p.2:=λ_ h=>by cases h
theorem Zx{p:Nat × (Value->World->Prop)}{l:List (Nat × (Value->World->Prop))}(h:Zej p.2)(k:∀ p ∈ l,Zej p.2):∀ r ∈ p::l,Zej r.2:=λr hr=>by
 rcases List.mem_cons.1 hr with rfl|h2;exact h;exact k r h2
end
theorem Zbu{t:TypeId}{w:World}{g:Nat}{a0:Bool}{A0:Option Addr}{n0 c0:Nat}{b0:Bool}{B0:Option Addr}{m0 d0:Nat}(na:Bool)(A:Option Addr)(n c:Nat)(nb:Bool)(B:Option Addr)(m d:Nat)(hb:Blk w g t #[.bool a0,.slice A0 n0 c0,.bool b0,.slice B0 m0 d0]) :
    ∃ W,(((w.setCell ⟨g,0,none⟩ (.bool na)).setCell ⟨g,1,none⟩ (.slice A n c)).setCell ⟨g,2,none⟩ (.bool nb)).setCell ⟨g,3,none⟩ (.slice B m d)=W/\Blk W g t #[.bool na,.slice A n c,.bool nb,.slice B m d]/\Kept (λk=>k=g) w W/\W.heap.size=w.heap.size:=by
 have e:Blk (w.setCell ⟨g,0,none⟩ (.bool na)) g t #[.bool na,.slice A0 n0 c0,.bool b0,.slice B0 m0 d0]:=hb.set_ 0 (.bool na);have h:Blk ((w.setCell ⟨g,0,none⟩ (.bool na)).setCell ⟨g,1,none⟩ (.slice A n c)) g t #[.bool na,.slice A n c,.bool b0,.slice B0 m0 d0]:=e.set_ 1 (.slice A n c);have f:Blk (((w.setCell ⟨g,0,none⟩ (.bool na)).setCell ⟨g,1,none⟩ (.slice A n c)).setCell ⟨g,2,none⟩ (.bool nb)) g t #[.bool na,.slice A n c,.bool nb,.slice B0 m0 d0]:=h.set_ 2 (.bool nb);have o:Blk ((((w.setCell ⟨g,0,none⟩ (.bool na)).setCell ⟨g,1,none⟩ (.slice A n c)).setCell ⟨g,2,none⟩ (.bool nb)).setCell ⟨g,3,none⟩ (.slice B m d)) g t #[.bool na,.slice A n c,.bool nb,.slice B m d]:=f.set_ 3 (.slice B m d);have k0:Kept (λk=>k=g) w w:=Qj _ _;exact⟨_,rfl,o,(((k0.set_ (p:=⟨g,0,none⟩) (.inl rfl) _).set_ (p:=⟨g,1,none⟩) (.inl rfl) _).set_ (p:=⟨g,2,none⟩) (.inl rfl) _).set_ (p:=⟨g,3,none⟩) (.inl rfl) _,by simp⟩
theorem Fr.keptN{w w':World}{na:Bool}{A:Option Addr}{n c:Nat}{nb:Bool}{B:Option Addr}{m d:Nat}{r:Rat}{g:Nat}{t:TypeId}{cs:Array Value}(h:Fr w na A n c nb B m d r)(hk:Kept (λk=>k=g) w w')(hb:Blk w g t cs)(hn:NoLimb cs):Fr w' na A n c nb B m d r:=
 ⟨hk.wd h.1 (λk e=>by cases e;exact⟨_,_,hb,hn⟩),hk.wd h.2 (λk e=>by cases e;exact⟨_,_,hb,hn⟩)⟩
theorem Zb1(a:Bool)(A:Option Addr)(n c:Nat)(b:Bool)(B:Option Addr)(m d:Nat):NoLimb #[.bool a,.slice A n c,.bool b,.slice B m d]:=λi x=>by
 match i with
 | 0=>simp
 | 1=>simp
 | 2=>simp
 | 3=>simp
 | i+4=>simp
theorem Za9(x:Int)(w:World) :
    Calls Tryz.prog 40 #[.bool true,.int .i64 x] w λe w'=>e=.returned (.tuple #[])/\w'=w:=by
 go_enter Tryz.func40,Tryz.ntmps40;go_wp2_with fail
 go_end0
 exact⟨rfl,rfl⟩
theorem Zad(x:Int)(w:World) :
    Calls Tryz.prog 40 #[.bool false,.int .i64 x] w λe w'=>e=.panicked [{ v:=.iface 117 (.agg #[.int .i64 x]),recovered:=false }]/\w'=w:=by
 go_enter Tryz.func40,Tryz.ntmps40;go_wp2_with fail;exact⟨rfl,rfl,rfl⟩
theorem Zc5(p:Addr)(w:World) :
    CallsD Tryz.prog 39 #[.pointer (some p)] .returning w λe u' w'=>e=.returned (.tuple #[])/\u'=.returning/\w'=w:=by
 refine callsD_of_wpS Tryz.func39 rfl λc₀ cs hu=>?_;apply wpS_seq;apply wpS_region;simp[wpOpsS,go_sem,recoverD,hu,Tryz.ntmps39,Exit.thenS];rw[show (#[Value.pointer (some p)]++(QV 14 undef).setIfInBounds 4 Value.nilIface)=#[Value.pointer (some p),undef,undef,undef,undef,Value.nilIface,undef,undef,undef,undef,undef,undef,undef,undef,undef] from rfl];refine wpS_of_wp ?_;go_wp2_with fail;cases c₀
 simp_all [bodyPostS,results,Tryz.results39]
theorem Zzl(x:Int)(w:World):(Instr.typeAssert (.iface 117 (.agg #[.int .i64 x])) 20 117 true).run Tryz.prog w=.ok (.tuple #[.agg #[.int .i64 x],.bool true]) w:=by kernel_rfl
theorem Z5(p:Addr)(x y:Int)(w:World)(hc:w.cell? p=some (.int .i64 y))(hz:w.frozen? p=false) :
    CallsD Tryz.prog 39 #[.pointer (some p)] (.panicking [{ v:=.iface 117 (.agg #[.int .i64 x]),recovered:=false }]) w λe u' w' =>
     e=.returned (.tuple #[])/\u'=.panicking [{ v:=.iface 117 (.agg #[.int .i64 x]),recovered:=true }]/\w'=(w.alloc (.cells #[.int .i64 x] 117)).setCell p (.int .i64 x):=by
 have f:=Zo hc;have u:(w.alloc (.cells #[.int .i64 x] 117)).cell? p=some (.int .i64 y):=by rw[World.cell?_alloc_lt _ _ _ f];exact hc
 have o:(w.alloc (.cells #[.int .i64 x] 117)).frozen? p=false:=by exact((Qe w.heap.size w).alloc (Qc _) _ |>.frozen f).trans hz
 have h:=Zzl x;refine callsD_of_wpS Tryz.func39 rfl λc₀ cs hu=>?_;apply wpS_seq;apply wpS_region;simp[wpOpsS,go_sem,recoverD,hu,Tryz.ntmps39,Exit.thenS];rw[show (#[Value.pointer (some p)]++(QV 14 undef).setIfInBounds 4 (Value.iface 117 (.agg #[.int .i64 x])))=#[Value.pointer (some p),undef,undef,undef,undef,Value.iface 117 (.agg #[.int .i64 x]),undef,undef,undef,undef,undef,undef,undef,undef,undef] from rfl];refine wpS_of_wp ?_;go_wp2_with fail;simp[bodyPostS,results,Tryz.results39]
theorem Zf6(na nb:Bool)(A B:Option Addr)(n c m d:Nat)(q:Rat)(w:World)(h:Fr w na A n c nb B m d q) :
    Calls Tryz.prog 84 #[.agg #[.bool na,.slice A n c,.bool nb,.slice B m d],.int .i64 0] w (Zfj w q):=by
 obtain⟨W0,C,u,⟨q0,q1⟩,s0⟩:=Zdb w 41 #[.bool na,.slice A n c,.bool nb,.slice B m d] 73 #[.bool false,.slice none 0 0,.bool false,.slice none 0 0];obtain⟨a0,a1,a2,a3,-⟩:=q0.four;obtain⟨gR,f⟩:=Gz (w.heap.size+1);rw[f]at q1;have h0:=h.below u;go_enter Tryz.func84,Tryz.ntmps84;go_wp2_with fail;(try rw[C]);refine(Za9 0 W0).mono ?_;rintro e w1 ⟨rfl,rfl⟩;(try rw[f]);obtain⟨c0,c1,c2,c3,z0,z1,z2,z3⟩:=q1.four;obtain⟨W5,y,q5,o,s5⟩:=Zbu na A n c nb B m d q1;go_wp2_with fail;(try rw[y]);obtain⟨r0,r1,r2,r3,-⟩:=q5.four;refine bodyPost_ret (v:=.agg #[.bool na,.slice A n c,.bool nb,.slice B m d]) (by simp[results,Tryz.results84,go_sem,r0,r1,r2,r3]) rfl ?_;refine⟨?_,_,_,_,_,_,_,_,_,rfl,h0.keptN o q1 (Zb1 _ _ _ _ _ _ _ _)⟩;exact u.trans (o.to_below (λk e=>by omega) (by omega))
theorem Ze2(na nb na' nb':Bool)(A B A' B':Option Addr)(n c m d n' c' m' d':Nat)(a b:Rat)(w:World)(ha:Fr w na A n c nb B m d a)(hb:Fr w na' A' n' c' nb' B' m' d' b)(sa:Sm a)(sb:Sm b) :
    Calls Tryz.prog 71 #[.agg #[.bool na,.slice A n c,.bool nb,.slice B m d],.agg #[.bool na',.slice A' n' c',.bool nb',.slice B' m' d']] w (Zfj w (a-b)):=by
 obtain⟨W0,J,f,⟨q0,q1,q2⟩,s0⟩:=Zd0 w 73 #[.bool na,.slice A n c,.bool nb,.slice B m d] 73 #[.bool na',.slice A' n' c',.bool nb',.slice B' m' d'] 73 #[.bool false,.slice none 0 0,.bool false,.slice none 0 0];obtain⟨a0,a1,a2,a3,-⟩:=q0.four;obtain⟨b0,b1,b2,b3,-⟩:=q1.four;obtain⟨gR,o⟩:=Gz (w.heap.size+1+1);rw[o]at q2;have hA:=ha.below f;have hD:=hb.below f;go_enter Tryz.func71,Tryz.ntmps71;go_wp2_with fail;(try rw[J]);refine(Zvt na nb na' nb' A B A' B' n c m d n' c' m' d' a b W0 hA hD sa sb).mono ?_;rintro e w1 ⟨h,pn,pA,pk,pc,pm,pB,pj,pd,rfl,hf⟩;replace q2:=Zc h q2;clear a0 a1 a2 a3 b0 b1 b2 b3 q0 q1 hA hD;go_wp2_with fail;refine(Zf6 pn pm pA pB pk pc pj pd _ w1 hf).mono ?_;rintro e w2 ⟨y,rn,rA,rk,rc,rm,rB,rj,rd,rfl,hr⟩;replace q2:=Zc y q2;(try rw[o]);obtain⟨c0,c1,c2,c3,z0,z1,z2,z3⟩:=q2.four;obtain⟨W5,I,q5,u,s5⟩:=Zbu rn rA rk rc rm rB rj rd q2;clear hf;go_wp2_with fail;(try rw[I]);obtain⟨r0,r1,r2,r3,-⟩:=q5.four;refine bodyPost_ret (v:=.agg #[.bool rn,.slice rA rk rc,.bool rm,.slice rB rj rd]) (by simp[results,Tryz.results71,go_sem,r0,r1,r2,r3]) rfl ?_;refine⟨?_,_,_,_,_,_,_,_,_,rfl,hr.keptN u q2 (Zb1 _ _ _ _ _ _ _ _)⟩;have C:=f.trans ((h.trans (y.mono h.size)).mono f.size);exact C.trans (u.to_below (λk e=>by omega) C.size)
theorem Zsl(z:Int):Rat.divInt z 1=(z:Rat):=by
 have h:=Qt ((z:Int):Rat);rw[Rat.num_intCast,Rat.den_intCast]at h;exact h
theorem Zi9(z:Int)(w:World)(h1:-9223372036854775808<=z)(h2:z<=9223372036854775807) :
    Calls Tryz.prog 44 #[.int .i64 z] w (Zfj w (z:Rat)):=by
 obtain⟨W0,J,u,q0,s0⟩:=Zbe w 73 #[.bool false,.slice none 0 0,.bool false,.slice none 0 0];obtain⟨gR,h⟩:=Gz w.heap.size;rw[h]at q0;go_enter Tryz.func44,Tryz.ntmps44;go_wp2_with fail;(try rw[J]);refine(Zqp z 1 W0 h1 h2 (by decide) (by decide)).mono ?_;rw[Zsl];rintro e w1 ⟨f,pn,pA,pk,pc,pm,pB,pj,pd,rfl,hf⟩;replace q0:=Zc f q0;go_wp2_with fail;refine(Zf6 pn pm pA pB pk pc pj pd _ w1 hf).mono ?_;rintro e w2 ⟨y,rn,rA,rk,rc,rm,rB,rj,rd,rfl,hr⟩;replace q0:=Zc y q0;(try rw[h]);obtain⟨c0,c1,c2,c3,z0,z1,z2,z3⟩:=q0.four;obtain⟨W5,I,q5,o,s5⟩:=Zbu rn rA rk rc rm rB rj rd q0;clear hf;go_wp2_with fail;(try rw[I]);obtain⟨r0,r1,r2,r3,-⟩:=q5.four;refine bodyPost_ret (v:=.agg #[.bool rn,.slice rA rk rc,.bool rm,.slice rB rj rd]) (by simp[results,Tryz.results44,go_sem,r0,r1,r2,r3]) rfl ?_;refine⟨?_,_,_,_,_,_,_,_,_,rfl,hr.keptN o q0 (Zb1 _ _ _ _ _ _ _ _)⟩;have C:=u.trans ((f.trans (y.mono f.size)).mono u.size);exact C.trans (o.to_below (λk e=>by omega) C.size)
theorem Zyc(z:Int)(w:World) :
    Calls Tryz.prog 161 #[.int .i64 z,.int .i64 0] w λe w'=>e=.returned (.int .i64 z)/\w'=w:=by
 go_enter Tryz.func161,Tryz.ntmps161;go_wp2_with fail;refine(Za9 0 w).mono ?_;rintro e w1 ⟨rfl,rfl⟩;go_wp2_with fail;go_returns;exact⟨rfl,rfl⟩
theorem Zx9(na:Bool)(A:Option Addr)(n c:Nat)(z:Int)(w:World)(hz:Wd w na A n c z) :
    Calls Tryz.prog 162 #[.agg #[.bool na,.slice A n c]] w λe w'=>e=.returned (.tuple #[.int .i64 (Zda z 0),.int .i64 0])/\Below w.heap.size w w':=by
 obtain⟨r,hr⟩:=Gz (Zda z 0);rw[hr];obtain⟨W0,o,hB,q,sz⟩:=Zbe w 39 #[.bool na,.slice A n c];replace hz:=Za (hz.below hB);obtain⟨s0,s1,-,-⟩:=q.two;go_enter Tryz.func162,Tryz.ntmps162;go_wp2_with fail;refine(Zqm na false A none n c 0 0 z 0 W0 hz.out (Wd.zero _)).mono ?_;rintro e w1 ⟨rfl,h⟩;have f:=hB.trans (h.mono hB.size);rw[hr];replace hr:=Za hr;go_wp2_with fail;go_returns;exact⟨rfl,f⟩
theorem Zhz(xn:Bool)(xA:Option Addr)(xk xc:Nat)(xm:Bool)(xB:Option Addr)(xj xd:Nat)(q:Rat)(w:World)(h:Fr w xn xA xk xc xm xB xj xd q) :
    Calls Tryz.prog 118 #[.agg #[.bool xn,.slice xA xk xc,.bool xm,.slice xB xj xd]] w λe w'=>e=.returned (.int .i64 (Zda q.num 0))/\Below w.heap.size w w':=by
 obtain⟨W0,u,f,q0,s0⟩:=Zbe w 73 #[.bool xn,.slice xA xk xc,.bool xm,.slice xB xj xd];obtain⟨a0,a1,a2,a3,-⟩:=q0.four;have hX:=h.below f;go_enter Tryz.func118,Tryz.ntmps118;go_wp2_with fail;(try rw[u]);refine(Zx9 xn xA xk xc q.num W0 hX.1).mono ?_;rintro e w1 ⟨rfl,o⟩;go_wp2_with fail;refine(Zyc _ w1).mono ?_;rintro e w2 ⟨rfl,rfl⟩;go_wp2_with fail;go_returns;exact⟨rfl,f.trans (o.mono f.size)⟩
def Zg9(a:Rat)(qs:List Rat):Nat->Rat
 | 0=>a
 | j+1=>Zg9 a qs j*(qs[j]?.getD 0)
def Zsw(qs:List Rat):Nat->Rat
 | 0=>0
 | j+1=>Zsw qs j+(qs[j]?.getD 0)
theorem Zbw(an:Bool)(aA:Option Addr)(ak ac:Nat)(am:Bool)(aB:Option Addr)(aj ad:Nat)(a:Rat)(L:Option Addr)(k cap:Nat)(qs:List Rat)(w:World)(ha:Fr w an aA ak ac am aB aj ad a)(hl:FL w L k cap qs)(hk:k<=100)(hs:∀ j,j<k->Sm (Zg9 a qs j))(he:∀ j:Nat,j<k->Sm (qs[j]?.getD 0)) :
    Calls Tryz.prog 45 #[.agg #[.bool an,.slice aA ak ac,.bool am,.slice aB aj ad],.slice L k cap] w (Zfj w (Zg9 a qs k)):=by
 have a6:=hl.cap;unfold maxLen at a6;obtain⟨W0,a4,V,⟨q0,q1⟩,s0⟩:=Zdb w 73 #[.bool an,.slice aA ak ac,.bool am,.slice aB aj ad] 73 #[.bool false,.slice none 0 0,.bool false,.slice none 0 0];obtain⟨g0,I⟩:=Gz w.heap.size;obtain⟨gR,O⟩:=Gz (g0+1);rw[I]at q0 q1 s0 V;rw[O]at q1;have hA:=ha.below (I▸V);have a9:Hid (W0.heap.size=gR+1):=Za (by rw[s0];omega);have b5:=Za hl;have a8:=Za hs;have b2:=Za he;have U:=Za I;clear hl hs he;go_enter Tryz.func45,Tryz.ntmps45;go_wp2_with fail;(try rw[a4]);(try rw[I]);(try rw[O]);have a5:=Za O;clear a4 I O
 go_loopg [9] k (λt iv wr=>∃ (i:Nat) (xn:Bool) (xA:Option Addr) (xk xc:Nat) (xm:Bool) (xB:Option Addr) (xj xd:Nat),i+t=k/\iv=.int .i64 i/\Blk wr g0 73 #[.bool xn,.slice xA xk xc,.bool xm,.slice xB xj xd]/\Hid (Fr wr xn xA xk xc xm xB xj xd (Zg9 a qs i))/\Kept (λk=>k=g0) W0 wr)
 case atStart=>exact⟨0,_,_,_,_,_,_,_,_,by omega,rfl,q0,Za hA,Qj _ _⟩
 case round =>
  obtain⟨i,xn,xA,xk,xc,xm,xB,xj,xd,c5,rfl,Y,hX,hK⟩:=hrel;have b8:=a9.out;have c4:=a5.out;have a0:=hK.blk q1 (by omega);have u:Below g0 w wr:=V.trans (hK.to_below (λk hk=>by omega) (by omega));obtain⟨x0,x1,x2,x3,y0,y1,y2,y3⟩:=Y.four;cases gk with
  | zero =>
   obtain rfl:i=k:=by omega
   have t1:decide ((i:Int)<(i:Int))=false:=by simp
   obtain⟨c0,c1,c2,c3,z0,z1,z2,z3⟩:=a0.four;obtain⟨W5,a2,q5,h,s5⟩:=Zbu xn xA xk xc xm xB xj xd a0;go_wp2_with fail;(try rw[a2]);obtain⟨r0,r1,r2,r3,-⟩:=q5.four;refine bodyPost_ret (v:=.agg #[.bool xn,.slice xA xk xc,.bool xm,.slice xB xj xd]) (by simp[results,Tryz.results45,go_sem,r0,r1,r2,r3]) rfl ?_;refine⟨?_,_,_,_,_,_,_,_,_,rfl,hX.out.keptN h a0 (Zb1 _ _ _ _ _ _ _ _)⟩;rw[U.out];exact u.trans (h.to_below (λk e=>by omega) (by have:=u.size;have:=hK.size;omega))
  | succ t =>
   obtain rfl:t=k-(i+1):=by omega
   have a1:i<k:=by omega
   have t1:decide ((i:Int)<(k:Int))=true:=Gv (by omega);have bi:(i:Int)<(k:Int):=by omega
   obtain⟨gl,o,yn,yA,yk,yc,ym,yB,yj,yd,rfl,⟨c0,c1,c2,c3⟩,hY⟩:=(b5.out.below (U.out▸u)).at_ a1;obtain⟨W1,c7,f,p1,s1⟩:=Zbe wr 73 #[.bool false,.slice none 0 0,.bool false,.slice none 0 0];obtain⟨gn,b6⟩:=Gz wr.heap.size;rw[b6]at p1 s1;have b9:=Zc f Y;obtain⟨u0,u1,u2,u3,v0,v1,v2,v3⟩:=p1.four;obtain⟨W2,a7,p2,b7,s2⟩:=Zbu yn yA yk yc ym yB yj yd p1;have J:Below wr.heap.size wr W2:=f.trans (b7.to_below (λk e=>by omega) f.size);have b0:=hX.out.below J;have b3:=hY.below J;have T:=Zc J Y;obtain⟨m0,m1,m2,m3,n0,n1,n2,n3⟩:=T.four;obtain⟨o0,o1,o2,o3,-⟩:=p2.four;have e0:=Zb f c0;have e1:=Zb f c1;have e2:=Zb f c2;have e3:=Zb f c3;go_wp2_with fail;(try rw[a7]);go_wp2_with fail;refine(Zvv xn xm yn ym xA xB yA yB xk xc xj xd yk yc yj yd _ _ W2 b0 b3 (a8.out i a1) (b2.out i a1)).mono ?_;rintro e w3 ⟨y,pn,pA,pk,pc,pm,pB,pj,pd,rfl,hf⟩;go_wp2_with fail;refine(Zf6 pn pm pA pB pk pc pj pd _ w3 hf).mono ?_;rintro e w4 ⟨a3,rn,rA,rk,rc,rm,rB,rj,rd,rfl,hr⟩;have C:=Zc a3 (Zc y T);obtain⟨d5,d0,d3,d6,c6,d4,c8,c9⟩:=C.four;obtain⟨W5,a2,q5,h,s5⟩:=Zbu rn rA rk rc rm rB rj rd C;clear x0 x1 x2 x3 y0 y1 y2 y3 m0 m1 m2 m3 n0 n1 n2 n3 o0 o1 o2 o3 u0 u1 u2 u3 v0 v1 v2 v3 e0 e1 e2 e3 c0 c1 c2 c3;go_wp2_with fail;(try rw[a2]);have b1:=Za (hr.keptN h C (Zb1 _ _ _ _ _ _ _ _));have b4:Kept (λk=>k=g0) W0 W5:=((hK.below J).below (y.trans (a3.mono y.size))).trans h
   go_roundg (k-(i+1))
   case measure=>omega
   case rel=>exact⟨i+1,_,_,_,_,_,_,_,_,by omega,by go_num,q5,b1,b4⟩
theorem Zm0(na nb na' nb':Bool)(A B A' B':Option Addr)(n c m d n' c' m' d':Nat)(a b:Rat)(w:World)(ha:Fr w na A n c nb B m d a)(hb:Fr w na' A' n' c' nb' B' m' d' b)(sa:Sm a)(sb:Sm b)(h0:b≠0) :
    Calls Tryz.prog 67 #[.agg #[.bool na,.slice A n c,.bool nb,.slice B m d],.agg #[.bool na',.slice A' n' c',.bool nb',.slice B' m' d']] w (Zfj w (a/b)):=by
 obtain⟨W0,J,f,⟨q0,q1,q2⟩,s0⟩:=Zd0 w 73 #[.bool na,.slice A n c,.bool nb,.slice B m d] 73 #[.bool na',.slice A' n' c',.bool nb',.slice B' m' d'] 73 #[.bool false,.slice none 0 0,.bool false,.slice none 0 0];obtain⟨a0,a1,a2,a3,-⟩:=q0.four;obtain⟨b0,b1,b2,b3,-⟩:=q1.four;obtain⟨gR,o⟩:=Gz (w.heap.size+1+1);rw[o]at q2;have hA:=ha.below f;have hD:=hb.below f;go_enter Tryz.func67,Tryz.ntmps67;go_wp2_with fail;(try rw[J]);refine(Zrq na nb na' nb' A B A' B' n c m d n' c' m' d' a b W0 hA hD sa sb h0).mono ?_;rintro e w1 ⟨h,pn,pA,pk,pc,pm,pB,pj,pd,rfl,hf⟩;replace q2:=Zc h q2;clear a0 a1 a2 a3 b0 b1 b2 b3 q0 q1 hA hD;go_wp2_with fail;refine(Zf6 pn pm pA pB pk pc pj pd _ w1 hf).mono ?_;rintro e w2 ⟨y,rn,rA,rk,rc,rm,rB,rj,rd,rfl,hr⟩;replace q2:=Zc y q2;(try rw[o]);obtain⟨c0,c1,c2,c3,z0,z1,z2,z3⟩:=q2.four;obtain⟨W5,I,q5,u,s5⟩:=Zbu rn rA rk rc rm rB rj rd q2;clear hf;go_wp2_with fail;(try rw[I]);obtain⟨r0,r1,r2,r3,-⟩:=q5.four;refine bodyPost_ret (v:=.agg #[.bool rn,.slice rA rk rc,.bool rm,.slice rB rj rd]) (by simp[results,Tryz.results67,go_sem,r0,r1,r2,r3]) rfl ?_;refine⟨?_,_,_,_,_,_,_,_,_,rfl,hr.keptN u q2 (Zb1 _ _ _ _ _ _ _ _)⟩;have C:=f.trans ((h.trans (y.mono h.size)).mono f.size);exact C.trans (u.to_below (λk e=>by omega) C.size)
theorem Zlk:(Tryz.prog.info? 73).map (λi=>(i.zero,i.size,i.bytes))=some (some (.agg #[.bool false,.slice none 0 0,.bool false,.slice none 0 0]),4,64):=by kernel_rfl
theorem Z04:(Tryz.prog.info? 97).map (λi=>(i.zero,i.size,i.bytes))=some (some (.slice none 0 0),1,24):=by kernel_rfl
theorem Zev{w:World}{t:TypeId}{g:Nat}{A:Option Addr}{n c:Nat}(h:Blk w g t #[.slice A n c]):Reads w (g+1) 1 (some ⟨g,0,none⟩) 1 (Zav [⟨A,n,c⟩]):=
 ⟨rfl,λ_=>⟨_,rfl,QB _,λj u hu=>by
  rw[Zg,QG,h.cell];simpa [Zav]using hu⟩⟩
def Zjc(A:Nat->Nat->Rat)(i k:Nat):List Rat:=(Qv k).map (lQ A i)
def Zg7(A:Nat->Nat->Rat)(i:Nat):List (List Rat):=(Qv i).map λr=>Zjc A r r
def dsL(A:Nat->Nat->Rat)(i:Nat):List Rat:=(Qv i).map (dQ A)
section
variable{A:Nat->Nat->Rat}{i j k:Nat}
theorem Zf7:(Zjc A i k).length=k:=by simp[Zjc]
theorem Zcx:(Zg7 A i).length=i:=by simp[Zg7]
theorem Zel:(dsL A i).length=i:=by simp[dsL]
theorem Zlq(h:j<k):(Zjc A i k)[j]?.getD 0=lQ A i j:=by simp[Zjc,h]
theorem Zmm(h:j<i):(Zg7 A i)[j]?.getD []=Zjc A j j:=by simp[Zg7,h]
theorem Zpz(h:j<i):(dsL A i)[j]?.getD 0=dQ A j:=by simp[dsL,h]
theorem Zx4:Zjc A i (k+1)=Zjc A i k ++ [lQ A i k]:=by simp[Zjc,QC]
theorem Zb0:Zg7 A (i+1)=Zg7 A i ++ [Zjc A i i]:=by simp[Zg7,QC]
theorem Zge:dsL A (i+1)=dsL A i ++ [dQ A i]:=by simp[dsL,QC]
end
theorem cmpZ_pos0{z:Int}:(0<Zda z 0) ↔ 0<z:=by
 unfold Zda
 split
 ·constructor <;> intro h <;> omega
 ·split
  ·constructor <;> intro h <;> omega
  ·constructor <;> intro h <;> omega
theorem num_pos0{q:Rat}:0<q.num ↔ 0<q:=by
 constructor
 ·intro h
  refine Rat.lt_of_le_of_ne (Rat.num_nonneg.1 (by omega)) (λe=>?_);rw[<- e]at h;exact absurd h (by decide)
 ·intro h
  have h5:=Rat.num_nonneg.2 (Rat.le_of_lt h);rcases Int.lt_or_eq_of_le h5 with h6|h6;exact h6
  ·rw[Rat.num_eq_zero.1 h6.symm]at h
   exact absurd h (by decide)
def FacPost(A:Nat->Nat->Rat)(n:Nat)(w:World)(e:Ending)(w':World):Prop:=
 Below w.heap.size w w'/\((posP A n/\∃ v1 v2 rs,e=.returned (.agg #[v1,v2])/\FacM 97 73 w' w.heap.size v1 v2 rs (Zg7 A n) (dsL A n)) \/
  (¬ posP A n/\e=.panicked [{ v:=.iface 117 (.agg #[.int .i64 8]),recovered:=false }]))
theorem FacM.lower{tS tN:TypeId}{w:World}{b b':Nat}{v1 v2:Value}{rs:List RS}{Q:List (List Rat)}{ds:List Rat}(h:FacM tS tN w b v1 v2 rs Q ds)(hb:b'<=b):FacM tS tN w b' v1 v2 rs Q ds:=by
 refine⟨⟨?_,h.1.2.1,λi r hr=>(h.1.2.2.1 i r hr).lower hb,h.1.2.2.2⟩,h.2.1.lower hb,h.2.2⟩;rcases h.1.1 with h|⟨g,sp,h1,h2,h3⟩;exact .inl h;exact .inr ⟨g,sp,h1,Qf hb h2,h3⟩
theorem Zox{A:Nat->Nat->Rat}{n i k j:Nat}(h:FacP A n)(hi:i<n)(hk:k<i)(hj:j<k)(hp:posP A i):(∀ t,t<2->Sm (Zg9 (lQ A i j) [lQ A k j,dQ A j] t))/\∀ t:Nat,t<2->Sm ([lQ A k j,dQ A j][t]?.getD 0):=by
 have e:posP A (j+1):=hp.mono (by omega);constructor
 ·intro t ht
  match t,ht with
  | 0,_=>exact(h.l i j (by omega) hi e).sm (by decide) (by decide)
  | 1,_=>exact(h.ll (by omega) hi (by omega) (show k<n by omega) e).sm (by decide) (by decide)
 ·intro t ht
  match t,ht with
  | 0,_=>exact(h.l k j (by omega) (by omega) e).sm (by decide) (by decide)
  | 1,_=>exact(h.d (show j<n by omega) (hp.mono (by omega))).sm (by decide) (by decide)
theorem Zl2{A:Nat->Nat->Rat}{n i k:Nat}(h:FacP A n)(hi:i<n)(hk:k<i)(hp:posP A i):(∀ t,t<2->Sm (Zg9 (lQ A i k) [lQ A i k,dQ A k] t))/\∀ t:Nat,t<2->Sm ([lQ A i k,dQ A k][t]?.getD 0):=by
 have e:posP A (k+1):=hp.mono (by omega);constructor
 ·intro t ht
  match t,ht with
  | 0,_=>exact(h.l i k (by omega) hi e).sm (by decide) (by decide)
  | 1,_=>exact(h.ll (by omega) hi (by omega) hi e).sm (by decide) (by decide)
 ·intro t ht
  match t,ht with
  | 0,_=>exact(h.l i k (by omega) hi e).sm (by decide) (by decide)
  | 1,_=>exact(h.d (show k<n by omega) (hp.mono (by omega))).sm (by decide) (by decide)
theorem Zyf{A:Nat->Nat->Rat}{n i k j:Nat}(h:FacP A n)(hi:i<n)(hk:k<i)(hj:j<k)(hp:posP A i):Sm (Z6 A j i k)/\Sm (Zg9 (lQ A i j) [lQ A k j,dQ A j] 2):=
 ⟨(h.s j i k (by omega) (hp.mono (by omega)) hi (by omega)).sm (by decide) (by decide),(h.lld (by omega) hi (by omega) (show k<n by omega) (hp.mono (by omega))).sm (by decide) (by decide)⟩
theorem Zvk{A:Nat->Nat->Rat}{n i k:Nat}(h:FacP A n)(hi:i<n)(hk:k<i)(hp:posP A i):Sm (Z6 A k i i)/\Sm (Zg9 (lQ A i k) [lQ A i k,dQ A k] 2):=
 ⟨(h.s k i i (by omega) (hp.mono (by omega)) hi hi).sm (by decide) (by decide),(h.lld (by omega) hi (by omega) hi (hp.mono (by omega))).sm (by decide) (by decide)⟩
theorem fac_q{A:Nat->Nat->Rat}{n i k:Nat}(h:FacP A n)(hi:i<n)(hk:k<i)(hp:posP A i):Sm (Z6 A k i k)/\Sm (dQ A k)/\dQ A k≠0:=
 ⟨(h.s k i k (by omega) (hp.mono (by omega)) hi (by omega)).sm (by decide) (by decide),(h.d (show k<n by omega) (hp.mono (by omega))).sm (by decide) (by decide),hp.ne hk⟩
theorem Zth(A0:Option Addr)(n c:Nat)(Q:List (List Rat))(w:World)(h:MFL w A0 n c Q)(hn9:n<=900)(hm:∀ i,i<n->(Q[i]?.getD []).length=n)(hF:FacP (Zh Q) n) :
    Calls Tryz.prog 107 #[.slice A0 n c] w (FacPost (Zh Q) n w):=by
 obtain⟨iN,hi,i4,k1,j1⟩:=info_parts Zlk;obtain⟨iS,ki,n0,n1,m5⟩:=info_parts Z04;have hmx:=Gt
 have b0:(97:TypeId)≠73:=by decide
 have N8:=h.2.1;have K6:=h.2.2.1;unfold maxLen at K6;obtain⟨AQ,v8⟩:=Gz (Zh Q);rw[v8]at hF ⊢;obtain⟨W0,H3,v7,q0,s0⟩:=Zbe w 99 #[.slice none 0 0,.slice none 0 0];obtain⟨gx,g7⟩:=Gz w.heap.size;rw[g7]at q0 s0 v7;have L7:Hid (W0.heap.size=gx+1):=Za s0;have hH:=Za h;replace hm:=Za hm;replace hF:=Za hF;replace v8:=Za v8;clear h s0;go_enter Tryz.func107,Tryz.ntmps107;go_wp2_with fail;(try rw[H3]);(try rw[g7]);replace g7:=Za g7;replace v7:=Za v7;clear H3
 go_loopg [12] n (λt iv wr=>∃ (i:Nat) (v1 v2:Value) (rs:List RS),i+t=n/\iv=.int .i64 i/\Blk wr gx 99 #[v1,v2]/\FacM 97 73 wr W0.heap.size v1 v2 rs (Zg7 AQ i) (dsL AQ i)/\Hid (posP AQ i)/\Kept (λk=>k=gx) W0 wr)
 case atStart=>exact⟨0,.slice none 0 0,.slice none 0 0,[],by omega,rfl,q0,FacM.nil _ _ _ _,Za (λt ht=>by omega),Qj _ _⟩
 case round =>
  clear q0;obtain⟨wi,rfl⟩:=Gy wr;obtain⟨i,v1,v2,rs,O2,rfl,f,e0,I,hK⟩:=hrel;have M5:=L7.out;have g9:Hid (Below gx w wi):=Za (v7.out.trans (hK.to_below (λk hk=>by omega) (by omega)));obtain⟨A1,c1,e1,xU⟩:=e0.1.mflA;obtain⟨A2,c2,e2,h2⟩:=e0.2.1.fl;rw[Zcx]at e1 xU;rw[Zel]at e2 h2;subst e1;subst e2;have x0:wi.cell? ⟨gx,0,none⟩=some (.slice A1 i c1):=by rw[f.cell];rfl
  have x1:wi.cell? ⟨gx,1,none⟩=some (.slice A2 i c2):=by rw[f.cell];rfl
  have z0:=f.frozen 0;have z1:=f.frozen 1;cases gk with
  | zero =>
   obtain rfl:i=n:=by omega
   have t1:decide ((i:Int)<(i:Int))=false:=by simp
   obtain⟨X,hX⟩:∃ X,(wi.setCell ⟨gx,0,none⟩ (.slice A1 i c1)).setCell ⟨gx,1,none⟩ (.slice A2 i c2)=X:=⟨_,rfl⟩;have B1:Kept (λk=>k=gx) wi X:=by rw[<- hX];exact Kept.set_ (G:=λk=>k=gx) (Kept.set_ (G:=λk=>k=gx) (Qj _ _) (p:=⟨gx,0,none⟩) (.inl rfl) _) (p:=⟨gx,1,none⟩) (.inl rfl) _
   have E2:Blk X gx 99 #[.slice A1 i c1,.slice A2 i c2]:=by rw[<- hX];exact(f.set_ 0 (.slice A1 i c1)).set_ 1 (.slice A2 i c2)
   have y0:X.cell? ⟨gx,0,none⟩=some (.slice A1 i c1):=by rw[E2.cell];rfl
   have y1:X.cell? ⟨gx,1,none⟩=some (.slice A2 i c2):=by rw[E2.cell];rfl
   have L8:=Za (e0.box f (Zdv _ _ _ _ _ _) (by omega) B1);have M0:Hid (Below gx w X):=Za (g9.out.trans (B1.to_below (λk hk=>by omega) (by have:=g9.out.size;have:=hK.size;omega)));clear e0 xU h2 hK B1 E2 f;go_wp2_with fail;(try rw[hX]);refine bodyPost_ret (v:=.agg #[.slice A1 i c1,.slice A2 i c2]) (by simp[results,Tryz.results107,go_sem,y0,y1]) rfl ?_;refine⟨by rw[g7.out];exact M0.out,.inl ⟨I.out,_,_,rs,rfl,L8.out.lower (by rw[g7.out];omega)⟩⟩
  | succ t =>
   obtain rfl:t=n-(i+1):=by omega
   have a3:i<n:=by omega
   have t1:decide ((i:Int)<(n:Int))=true:=Gv (by omega);have bi:(i:Int)<(n:Int):=by omega
   obtain⟨ga,oa,Ar,nr,cr,rfl,k0,hR⟩:=(hH.out.below (g7.out▸g9.out)).at_ a3;obtain⟨row,h9⟩:=Gz (Q[i]?.getD []);rw[h9]at hR;have K2:n=nr:=by rw[<- hR.len,<- h9];exact(hm.out i a3).symm
   subst K2;have x6:Hid (∀ t:Nat,row[t]?.getD 0=AQ i t):=Za (λt=>by rw[<- v8.out,<- h9];rfl);replace h9:=Za h9;obtain⟨gr,or_,xn,xA,xk,xc,xm,xB,xj,xd,rfl,⟨r0,r1,r2,r3⟩,hX⟩:=hR.at_ a3;rw[x6.out]at hX;obtain⟨V1,K3,t0,p1,s1⟩:=Zbe wi 73 #[.bool false,.slice none 0 0,.bool false,.slice none 0 0];obtain⟨gl,o8⟩:=Gz wi.heap.size;rw[o8]at p1 s1;obtain⟨u0,u1,u2,u3,v0,v1,v2,v3⟩:=p1.four;obtain⟨W2,I7,p2,I4,s2⟩:=Zbu xn xA xk xc xm xB xj xd p1;have q9:Below wi.heap.size wi W2:=t0.trans (I4.to_below (λk e=>by omega) t0.size);have L1:Hid (W2.heap.size=gl+1):=Za (by rw[s2,s1]);have H4:=Za (hX.below q9);have H8:Hid (gx<gl):=Za (by have:=g9.out.size;have:=hK.size;omega);replace q9:=Za q9;replace e0:=Za e0;replace xU:=Za xU;replace h2:=Za h2;replace hR:=Za hR;replace f:=Za f;replace hK:=Za hK;replace p2:=Za p2;clear hX t0 I4 s1 s2;go_wp2_with fail;(try rw[o8]);(try rw[I7]);clear u0 u1 u2 u3 v0 v1 v2 v3 p1 K3 I7 r0 r1 r2 r3 k0;replace o8:=Za o8
   go_loopg [5,23] i (λt ov kv wk=>∃ (k:Nat) (ln:Bool) (lA:Option Addr) (lk lc:Nat) (lm:Bool) (lB:Option Addr) (lj ld:Nat),k+t=i/\kv=.int .i64 k/\OwnF 73 wk W2.heap.size ov (Zjc AQ i k)/\Blk wk gl 73 #[.bool ln,.slice lA lk lc,.bool lm,.slice lB lj ld]/\Hid (Fr wk ln lA lk lc lm lB lj ld (Z6 AQ k i i))/\Kept (λg=>g=gl) W2 wk)
   case atStart=>exact⟨0,_,_,_,_,_,_,_,_,by omega,rfl,OwnF.nil _ _ _,p2.out,H4,Qj _ _⟩
   case round =>
    clear p2 H4;obtain⟨wk,rfl⟩:=Gy wr;obtain⟨k,ln,lA,lk,lc,lm,lB,lj,ld,N9,rfl,a4,c4,hl,d9⟩:=hrel;have N5:=L1.out;have N1:=o8.out;have K7:=H8.out;have h6:Hid (Below wi.heap.size wi wk):=Za (q9.out.trans (d9.to_below (λk e=>by omega) (by omega)));obtain⟨Ao,co,e3,d8⟩:=a4.fl;rw[Zf7]at e3 d8;subst e3;have C3:=d8.cap;unfold maxLen at C3;have c5:=Zc h6.out f.out;have H1:wk.cell? ⟨gx,0,none⟩=some (.slice A1 i c1):=by rw[c5.cell];rfl
    have J2:wk.cell? ⟨gx,1,none⟩=some (.slice A2 i c2):=by rw[c5.cell];rfl
    have J1:=c5.frozen 0;have J5:=c5.frozen 1;clear x0 x1 z0 z1;obtain⟨l0,l1,l2,l3,m0,m1,m2,m3⟩:=c4.four;cases gk with
    | zero =>
     obtain rfl:k=i:=by omega
     have t2:decide ((k:Int)<(k:Int))=false:=by simp
     have H0:Hid (Z6 AQ k k k=dQ AQ k):=Za rfl;by_cases hp:0<dQ AQ k
     case neg =>
      have L4:Hid (¬ posP AQ n):=Za (λhp9=>hp (hp9 k a3));have t4:decide ((0:Int)<Zda (Z6 AQ k k k).num 0)=false:=Gu (λh=>hp (by rw[<- H0.out];exact num_pos0.1 (cmpZ_pos0.1 h)));replace hp:=Za hp;replace d8:=Za d8;replace a4:=Za a4;replace d9:=Za d9;replace c4:=Za c4;clear c5;go_wp2_with fail;refine(Zhz ln lA lk lc lm lB lj ld _ wk hl.out).mono ?_;rintro e w5 ⟨rfl,b6⟩;go_wp2_with fail;refine(Zad 8 w5).mono ?_;rintro e w6 ⟨rfl,rfl⟩;go_wp2_with fail;refine⟨rfl,?_,.inr ⟨L4.out,rfl⟩⟩;have h1:=g9.out.trans ((h6.out.trans (b6.mono h6.out.size)).mono (by omega));rw[g7.out];exact h1
     have b8:Hid (posP AQ (k+1)):=Za (λt ht=>by
      rcases Qr t k with h1|h1;exact I.out t h1
      ·rw[show t=k by omega];exact hp)
     have t4:decide ((0:Int)<Zda (Z6 AQ k k k).num 0)=true:=Gv (cmpZ_pos0.2 (num_pos0.2 (by rw[H0.out];exact hp)));replace hp:=Za hp;replace d8:=Za d8;replace a4:=Za a4;replace d9:=Za d9;replace c4:=Za c4;clear c5;go_wp2_with fail;refine(Zhz ln lA lk lc lm lB lj ld _ wk hl.out).mono ?_;rintro e w5 ⟨rfl,b6⟩;go_wp2_with fail;refine(Za9 8 w5).mono ?_;rintro e w6 ⟨rfl,rfl⟩;have l8:Below wi.heap.size wi w6:=h6.out.trans (b6.mono h6.out.size);have v5:EnvF 97 73 99 w6 W0.heap.size W2.heap.size gl gx (.slice A1 k c1) (.slice A2 k c2) (.slice A1 k c1) (.slice A2 k c2) (.slice Ao k co) rs (Zg7 AQ k) (dsL AQ k) (Zjc AQ k k) ln lA lk lc lm lB lj ld (dQ AQ k):=⟨e0.out.kept l8,a4.out.kept b6,Zc b6 c4.out,hl.out.below b6,Zc l8 f.out⟩;have L3:Hid (Kept (λk=>k=gx) W0 w6):=Za (hK.out.below l8);have C:gx<W0.heap.size:=by omega
     have e6:Hid (gl<W2.heap.size):=Za (by omega);have f4:Hid (∀ k',(Value.slice A2 k c2).ownBlock=some k'->k'<gl):=Za (λk' e=>by have:=e0.out.2.1.blt k' e;omega);have e9:Hid (∀ s ∈ rs,∀ k',s.val.ownBlock=some k'->k'<W2.heap.size):=Za (λs hs k' e=>by have:=e0.out.rlt s hs k' e;omega);have O0:(rs).length=k:=by rw[e0.out.1.2.1,Zcx]
     have b9:rs.length+1<=1000:=by omega
     have b2:(dsL AQ k).length+1<=1000:=by rw[Zel];omega
     obtain⟨N3,M4⟩:=v5.cells;replace v5:=Za v5;clear b6 l8 H1 J2 J1 J5 l0 l1 l2 l3 m0 m1 m2 m3;go_wp2_with fail;obtain⟨X0,a1⟩:=Gz w6.drew;have o7:Below w6.heap.size w6 X0:=by rw[<- a1];exact Zf (Qe _ _) 1
     have hE:=v5.out.below o7;have C7:Kept (λk=>k=gx) W0 X0:=L3.out.below o7;have z3:w6.drew.cell? ⟨gx,0,none⟩=some (.slice A1 k c1)/\w6.drew.cell? ⟨gx,1,none⟩=some (.slice A2 k c2):=by rw[a1];exact hE.cells
     refine Z7 [11,13] (λwx=>wx.cell? ⟨gx,0,none⟩=some (.slice A1 k c1)/\wx.cell? ⟨gx,1,none⟩=some (.slice A2 k c2)) hmx z3 (λhxs9=>?_);refine Zjw 5 [0,1,2,5,6] rfl (by kernel_rfl) z3 ?_
     iterate 5 (refine tkA ?_;try simp only[Qb,Zg4,Zgk,Zgx,Gr,Gq,Gp])
     refine tk0 ?_;rw[a1];clear z3 hxs9 o7 a1;have n4:Hid (W0.heap.size<=W2.heap.size):=Za (by omega);refine Zet (i:=3) (j:=7) rfl rfl (by kernel_rfl) (λK hK=>?_) (λK hK=>?_)
     ·obtain⟨Y1,a2⟩:=Gz (X0.alloc (.cells #[.slice Ao k co] 97))
      obtain⟨v9,s8⟩:=Gz X0.heap.size;have x4:Below X0.heap.size X0 Y1:=by rw[<- a2];exact(Qe _ _).alloc (Qc _) _
      have t6:Blk Y1 v9 97 #[.slice Ao k co]:=by rw[<- a2,<- s8];exact Qp _ _ _
      have a8:=hE.below x4;have i0:=C7.below x4;go_simp;(try rw[a2]);(try rw[s8]);refine hK.out _ _ (λ_=>a8.cells) ?_;clear hK K a2 s8
      try simp only[Qb,Zg4,Zgk,Zgx]
      refine Zet (i:=4) (j:=7) rfl rfl (by kernel_rfl) (λK hK=>?_) (λK hK=>?_)
      ·rw[Gx (by rfl)]
       refine Za0 _ (.tmp 90) (.tmp 92) 96 rfl W0.heap.size 97 iS Tryz.underlying96 ki n0 n1 m5 (.slice A1 k c1) rs rfl a8.1.1.1 _ (some ⟨v9,0,none⟩) 1 1 [⟨Ao,k,co⟩] rfl (Zev t6) rfl b9 i0.size ?_;intro O4 Y4 F7 x5 I6;have h4:=a8.app b0 (r:=⟨Ao,k,co⟩) rfl n4.out e9.out (λk' e=>Qu (f4.out k' e) e6.out) C F7 x5 I6;have G2:=Kept.grownC i0 x5 (λk' hk=>a8.1.1.1.row_ge k' hk);refine hK.out _ _ (λ_=>h4.cells) ?_;clear hK K
       try simp only[Qb,Zg4,Zgk,Zgx]
       refine Zgl 1 [10] rfl (by kernel_rfl) h4.cells ?_
       (refine tkA ?_;try simp only[Qb,Zg4,Zgk,Zgx,Gr,Gq,Gp])
       refine tk0 ?_;refine wpAnyL_o 7 λK hK=>?_;obtain⟨L9,K5,K8,L5⟩:=h4.left;go_simp;refine hK.out _ _ (λ_=>h4.cells) ?_;clear hK K L9 K5 K8 L5
       try simp only[Qb,Zg4,Zgk,Zgx]
       refine wpAnyL_o 8 λK hK=>?_;obtain⟨Y6,w1⟩:=Gz (Y4.alloc (.cells #[.bool ln,.slice lA lk lc,.bool lm,.slice lB lj ld] 73));obtain⟨F2,u7⟩:=Gz Y4.heap.size;have w9:Below Y4.heap.size Y4 Y6:=by rw[<- w1];exact(Qe _ _).alloc (Qc _) _
       have I5:Blk Y6 F2 73 #[.bool ln,.slice lA lk lc,.bool lm,.slice lB lj ld]:=by rw[<- w1,<- u7];exact Qp _ _ _
       have g6:=h4.below w9;have x8:=G2.below w9;go_simp;(try rw[w1]);(try rw[u7]);refine hK.out _ _ (λ_=>g6.cells) ?_;clear hK K w1 u7
       try simp only[Qb,Zg4,Zgk,Zgx]
       refine wpAnyL_o 9 λK hK=>?_;rw[Gx (by rfl)];refine Za6 _ (.tmp 95) (.tmp 97) 97 rfl W0.heap.size 73 iN Tryz.underlying97 hi i4 k1 j1 (.slice A2 k c2) _ rfl g6.1.2.1 _ (some ⟨F2,0,none⟩) 1 1 [⟨ln,lA,lk,lc,lm,lB,lj,ld,dQ AQ k⟩] rfl (Zbm _ I5) rfl (by intro e he;rw[Qi]at he;subst he;exact g6.2.2.1) b2 x8.size ?_;intro M2 Y9 J6 x2 G8 H2;obtain⟨f1,f3⟩:=g6.app b0 C J6 x2 G8 H2;have F8:=Kept.grownC x8 x2 (λk' hk=>g6.1.2.1.row_ge k' hk);refine hK.out _ _ (λ_=>⟨by rw[f3.cell];rfl,by rw[f3.cell];rfl⟩) ?_;clear hK K
       try simp only[Qb,Zg4,Zgk,Zgx]
       obtain⟨a7,a9,e7,-⟩:=f1.1.mflA;obtain⟨b1,b3,e8,-⟩:=f1.2.1.fl;rw[<- Zb0,Zcx]at e7;subst e7;obtain rfl:M2=.slice b1 (k+1) b3:=by rw[e8];congr 1;simp[Zel]
       clear e8;have f6:Kept (λk=>k=gx) Y9 ((Y9.setCell ⟨gx,0,none⟩ (.slice a7 (k+1) a9)).setCell ⟨gx,1,none⟩ (.slice b1 (k+1) b3)):=Kept.set_ (G:=λk=>k=gx) (Kept.set_ (G:=λk=>k=gx) (Qj _ _) (p:=⟨gx,0,none⟩) (.inl rfl) _) (p:=⟨gx,1,none⟩) (.inl rfl) _;have f5:Blk (Y9.setCell ⟨gx,0,none⟩ (.slice a7 (k+1) a9)) gx 99 #[.slice a7 (k+1) a9,.slice A2 k c2]:=f3.set_ 0 _;have f7:Blk ((Y9.setCell ⟨gx,0,none⟩ (.slice a7 (k+1) a9)).setCell ⟨gx,1,none⟩ (.slice b1 (k+1) b3)) gx 99 #[.slice a7 (k+1) a9,.slice b1 (k+1) b3]:=f5.set_ 1 _;have f8:=f1.box f3 (Zdv _ _ _ _ _ _) C f6;have u0:Y9.cell? ⟨gx,0,none⟩=some (.slice A1 k c1):=by rw[f3.cell];rfl
       have c8:=f3.frozen 0;have u1:(Y9.setCell ⟨gx,0,none⟩ (.slice a7 (k+1) a9)).cell? ⟨gx,1,none⟩=some (.slice A2 k c2):=by rw[f5.cell];rfl
       have d4:=f5.frozen 1;have y:=F8.trans f6;obtain⟨Z9,J⟩:∃ Z,((Y9.setCell ⟨gx,0,none⟩ (.slice a7 (k+1) a9)).setCell ⟨gx,1,none⟩ (.slice b1 (k+1) b3))=Z:=⟨_,rfl⟩;rw[J]at f7 f8 y;replace f7:=Za f7;replace f8:=Za f8;replace y:=Za y;clear f1 f3 f6;refine Zm (i:=11) rfl (by kernel_rfl) (by kernel_rfl) (λK hK=>?_);go_simp;refine hK.out _ _ ?_;clear hK K
       try simp only[Qb,Zg4,Zgk,Zgx]
       refine Zi (i:=12) (v:=?v47) rfl (by kernel_rfl) (by kernel_rfl) (by kernel_rfl) (by kernel_rfl) (QK ⟨by kernel_rfl,?hy47⟩) (λhno=>absurd hno (by decide)) ?rest47
       case hy47=>(intro W2 _;go_simp;try with_reducible rfl)
       try simp only[Qb,Zg4,Zgk,Zgx,Gr,Gq,Gp]
       refine Zm (i:=13) rfl (by kernel_rfl) (by kernel_rfl) (λK hK=>?_);go_simp;(try rw[J]);refine hK.out _ _ ?_;clear hK K
       try simp only[Qb,Zg4,Zgk,Zgx]
       refine wpAnyL_fin ?_;clear J u0 c8 u1 d4 f5;go_wp2_with fail
       go_roundg (n-(k+1))
       case measure=>omega
       case rel=>exact⟨k+1,_,_,rs ++ [⟨Ao,k,co⟩],by omega,by go_num,f7.out,by rw[Zb0,Zge];exact f8.out,b8,y.out⟩
      ·obtain⟨G0,J7,G6,H6⟩:=a8.left
       go_simp;refine hK.out _ _ (λ_=>a8.cells) ?_;clear hK K G0 J7 G6 H6
       try simp only[Qb,Zg4,Zgk,Zgx]
       refine Zet (i:=4) (j:=8) rfl rfl (by kernel_rfl) (λK hK=>?_) (λK hK=>?_)
       ·rw[Gx (by rfl)]
        refine Za0 _ (.tmp 90) (.tmp 92) 96 rfl W0.heap.size 97 iS Tryz.underlying96 ki n0 n1 m5 (.slice A1 k c1) rs rfl a8.1.1.1 _ (some ⟨v9,0,none⟩) 1 1 [⟨Ao,k,co⟩] rfl (Zev t6) rfl b9 i0.size ?_;intro M8 w0 z6 n6 C2;have k4:=a8.app b0 (r:=⟨Ao,k,co⟩) rfl n4.out e9.out (λk' e=>Qu (f4.out k' e) e6.out) C z6 n6 C2;have E4:=Kept.grownC i0 n6 (λk' hk=>a8.1.1.1.row_ge k' hk);refine hK.out _ _ (λ_=>k4.cells) ?_;clear hK K
        try simp only[Qb,Zg4,Zgk,Zgx]
        refine Zgl 1 [10] rfl (by kernel_rfl) k4.cells ?_
        (refine tkA ?_;try simp only[Qb,Zg4,Zgk,Zgx,Gr,Gq,Gp])
        refine tk0 ?_;refine wpAnyL_o 8 λK hK=>?_;obtain⟨I9,l9⟩:=Gz (w0.alloc (.cells #[.bool ln,.slice lA lk lc,.bool lm,.slice lB lj ld] 73));obtain⟨x7,i2⟩:=Gz w0.heap.size;have n7:Below w0.heap.size w0 I9:=by rw[<- l9];exact(Qe _ _).alloc (Qc _) _
        have E5:Blk I9 x7 73 #[.bool ln,.slice lA lk lc,.bool lm,.slice lB lj ld]:=by rw[<- l9,<- i2];exact Qp _ _ _
        have d6:=k4.below n7;have u9:=E4.below n7;go_simp;(try rw[l9]);(try rw[i2]);refine hK.out _ _ (λ_=>d6.cells) ?_;clear hK K l9 i2
        try simp only[Qb,Zg4,Zgk,Zgx]
        refine wpAnyL_o 9 λK hK=>?_;rw[Gx (by rfl)];refine Za6 _ (.tmp 95) (.tmp 97) 97 rfl W0.heap.size 73 iN Tryz.underlying97 hi i4 k1 j1 (.slice A2 k c2) _ rfl d6.1.2.1 _ (some ⟨x7,0,none⟩) 1 1 [⟨ln,lA,lk,lc,lm,lB,lj,ld,dQ AQ k⟩] rfl (Zbm _ E5) rfl (by intro e he;rw[Qi]at he;subst he;exact d6.2.2.1) b2 u9.size ?_;intro I2 i1 B2 u4 y7 D7;obtain⟨f1,f3⟩:=d6.app b0 C B2 u4 y7 D7;have C8:=Kept.grownC u9 u4 (λk' hk=>d6.1.2.1.row_ge k' hk);refine hK.out _ _ (λ_=>⟨by rw[f3.cell];rfl,by rw[f3.cell];rfl⟩) ?_;clear hK K
        try simp only[Qb,Zg4,Zgk,Zgx]
        obtain⟨a7,a9,e7,-⟩:=f1.1.mflA;obtain⟨b1,b3,e8,-⟩:=f1.2.1.fl;rw[<- Zb0,Zcx]at e7;subst e7;obtain rfl:I2=.slice b1 (k+1) b3:=by rw[e8];congr 1;simp[Zel]
        clear e8;have f6:Kept (λk=>k=gx) i1 ((i1.setCell ⟨gx,0,none⟩ (.slice a7 (k+1) a9)).setCell ⟨gx,1,none⟩ (.slice b1 (k+1) b3)):=Kept.set_ (G:=λk=>k=gx) (Kept.set_ (G:=λk=>k=gx) (Qj _ _) (p:=⟨gx,0,none⟩) (.inl rfl) _) (p:=⟨gx,1,none⟩) (.inl rfl) _;have f5:Blk (i1.setCell ⟨gx,0,none⟩ (.slice a7 (k+1) a9)) gx 99 #[.slice a7 (k+1) a9,.slice A2 k c2]:=f3.set_ 0 _;have f7:Blk ((i1.setCell ⟨gx,0,none⟩ (.slice a7 (k+1) a9)).setCell ⟨gx,1,none⟩ (.slice b1 (k+1) b3)) gx 99 #[.slice a7 (k+1) a9,.slice b1 (k+1) b3]:=f5.set_ 1 _;have f8:=f1.box f3 (Zdv _ _ _ _ _ _) C f6;have u0:i1.cell? ⟨gx,0,none⟩=some (.slice A1 k c1):=by rw[f3.cell];rfl
        have c8:=f3.frozen 0;have u1:(i1.setCell ⟨gx,0,none⟩ (.slice a7 (k+1) a9)).cell? ⟨gx,1,none⟩=some (.slice A2 k c2):=by rw[f5.cell];rfl
        have d4:=f5.frozen 1;have y:=C8.trans f6;obtain⟨Z9,J⟩:∃ Z,((i1.setCell ⟨gx,0,none⟩ (.slice a7 (k+1) a9)).setCell ⟨gx,1,none⟩ (.slice b1 (k+1) b3))=Z:=⟨_,rfl⟩;rw[J]at f7 f8 y;replace f7:=Za f7;replace f8:=Za f8;replace y:=Za y;clear f1 f3 f6;refine Zm (i:=11) rfl (by kernel_rfl) (by kernel_rfl) (λK hK=>?_);go_simp;refine hK.out _ _ ?_;clear hK K
        try simp only[Qb,Zg4,Zgk,Zgx]
        refine Zi (i:=12) (v:=?v49) rfl (by kernel_rfl) (by kernel_rfl) (by kernel_rfl) (by kernel_rfl) (QK ⟨by kernel_rfl,?hy49⟩) (λhno=>absurd hno (by decide)) ?rest49
        case hy49=>(intro W2 _;go_simp;try with_reducible rfl)
        try simp only[Qb,Zg4,Zgk,Zgx,Gr,Gq,Gp]
        refine Zm (i:=13) rfl (by kernel_rfl) (by kernel_rfl) (λK hK=>?_);go_simp;(try rw[J]);refine hK.out _ _ ?_;clear hK K
        try simp only[Qb,Zg4,Zgk,Zgx]
        refine wpAnyL_fin ?_;clear J u0 c8 u1 d4 f5;go_wp2_with fail
        go_roundg (n-(k+1))
        case measure=>omega
        case rel=>exact⟨k+1,_,_,rs ++ [⟨Ao,k,co⟩],by omega,by go_num,f7.out,by rw[Zb0,Zge];exact f8.out,b8,y.out⟩
       ·obtain⟨H5,l4⟩:=Gz (Y1.alloc (.cells #[.bool ln,.slice lA lk lc,.bool lm,.slice lB lj ld] 73))
        obtain⟨w7,i7⟩:=Gz Y1.heap.size;have j0:Below Y1.heap.size Y1 H5:=by rw[<- l4];exact(Qe _ _).alloc (Qc _) _
        have B8:Blk H5 w7 73 #[.bool ln,.slice lA lk lc,.bool lm,.slice lB lj ld]:=by rw[<- l4,<- i7];exact Qp _ _ _
        have c7:=a8.below j0;have o9:=i0.below j0;have r9:=Zc j0 t6;go_simp;(try rw[l4]);(try rw[i7]);refine hK.out _ _ (λ_=>c7.cells) ?_;clear hK K l4 i7
        try simp only[Qb,Zg4,Zgk,Zgx]
        refine wpAnyL_o 4 λK hK=>?_;rw[Gx (by rfl)];refine Za0 _ (.tmp 90) (.tmp 92) 96 rfl W0.heap.size 97 iS Tryz.underlying96 ki n0 n1 m5 (.slice A1 k c1) rs rfl c7.1.1.1 _ (some ⟨v9,0,none⟩) 1 1 [⟨Ao,k,co⟩] rfl (Zev r9) rfl b9 o9.size ?_;intro N2 O5 C1 i3 z8;have b4:=c7.app b0 (r:=⟨Ao,k,co⟩) rfl n4.out e9.out (λk' e=>Qu (f4.out k' e) e6.out) C C1 i3 z8;have r4:=Kept.grownC o9 i3 (λk' hk=>c7.1.1.1.row_ge k' hk);have n3:=c7.far b0 i3 B8;refine hK.out _ _ (λ_=>b4.cells) ?_;clear hK K
        try simp only[Qb,Zg4,Zgk,Zgx]
        refine Zgl 1 [10] rfl (by kernel_rfl) b4.cells ?_
        (refine tkA ?_;try simp only[Qb,Zg4,Zgk,Zgx,Gr,Gq,Gp])
        refine tk0 ?_;refine wpAnyL_o 9 λK hK=>?_;rw[Gx (by rfl)];refine Za6 _ (.tmp 95) (.tmp 97) 97 rfl W0.heap.size 73 iN Tryz.underlying97 hi i4 k1 j1 (.slice A2 k c2) _ rfl b4.1.2.1 _ (some ⟨w7,0,none⟩) 1 1 [⟨ln,lA,lk,lc,lm,lB,lj,ld,dQ AQ k⟩] rfl (Zbm _ n3) rfl (by intro e he;rw[Qi]at he;subst he;exact b4.2.2.1) b2 r4.size ?_;intro H9 i5 A7 o4 z4 B3;obtain⟨f1,f3⟩:=b4.app b0 C A7 o4 z4 B3;have E7:=Kept.grownC r4 o4 (λk' hk=>b4.1.2.1.row_ge k' hk);refine hK.out _ _ (λ_=>⟨by rw[f3.cell];rfl,by rw[f3.cell];rfl⟩) ?_;clear hK K
        try simp only[Qb,Zg4,Zgk,Zgx]
        obtain⟨a7,a9,e7,-⟩:=f1.1.mflA;obtain⟨b1,b3,e8,-⟩:=f1.2.1.fl;rw[<- Zb0,Zcx]at e7;subst e7;obtain rfl:H9=.slice b1 (k+1) b3:=by rw[e8];congr 1;simp[Zel]
        clear e8;have f6:Kept (λk=>k=gx) i5 ((i5.setCell ⟨gx,0,none⟩ (.slice a7 (k+1) a9)).setCell ⟨gx,1,none⟩ (.slice b1 (k+1) b3)):=Kept.set_ (G:=λk=>k=gx) (Kept.set_ (G:=λk=>k=gx) (Qj _ _) (p:=⟨gx,0,none⟩) (.inl rfl) _) (p:=⟨gx,1,none⟩) (.inl rfl) _;have f5:Blk (i5.setCell ⟨gx,0,none⟩ (.slice a7 (k+1) a9)) gx 99 #[.slice a7 (k+1) a9,.slice A2 k c2]:=f3.set_ 0 _;have f7:Blk ((i5.setCell ⟨gx,0,none⟩ (.slice a7 (k+1) a9)).setCell ⟨gx,1,none⟩ (.slice b1 (k+1) b3)) gx 99 #[.slice a7 (k+1) a9,.slice b1 (k+1) b3]:=f5.set_ 1 _;have f8:=f1.box f3 (Zdv _ _ _ _ _ _) C f6;have u0:i5.cell? ⟨gx,0,none⟩=some (.slice A1 k c1):=by rw[f3.cell];rfl
        have c8:=f3.frozen 0;have u1:(i5.setCell ⟨gx,0,none⟩ (.slice a7 (k+1) a9)).cell? ⟨gx,1,none⟩=some (.slice A2 k c2):=by rw[f5.cell];rfl
        have d4:=f5.frozen 1;have y:=E7.trans f6;obtain⟨Z9,J⟩:∃ Z,((i5.setCell ⟨gx,0,none⟩ (.slice a7 (k+1) a9)).setCell ⟨gx,1,none⟩ (.slice b1 (k+1) b3))=Z:=⟨_,rfl⟩;rw[J]at f7 f8 y;replace f7:=Za f7;replace f8:=Za f8;replace y:=Za y;clear f1 f3 f6;refine Zm (i:=11) rfl (by kernel_rfl) (by kernel_rfl) (λK hK=>?_);go_simp;refine hK.out _ _ ?_;clear hK K
        try simp only[Qb,Zg4,Zgk,Zgx]
        refine Zi (i:=12) (v:=?v51) rfl (by kernel_rfl) (by kernel_rfl) (by kernel_rfl) (by kernel_rfl) (QK ⟨by kernel_rfl,?hy51⟩) (λhno=>absurd hno (by decide)) ?rest51
        case hy51=>(intro W2 _;go_simp;try with_reducible rfl)
        try simp only[Qb,Zg4,Zgk,Zgx,Gr,Gq,Gp]
        refine Zm (i:=13) rfl (by kernel_rfl) (by kernel_rfl) (λK hK=>?_);go_simp;(try rw[J]);refine hK.out _ _ ?_;clear hK K
        try simp only[Qb,Zg4,Zgk,Zgx]
        refine wpAnyL_fin ?_;clear J u0 c8 u1 d4 f5;go_wp2_with fail
        go_roundg (n-(k+1))
        case measure=>omega
        case rel=>exact⟨k+1,_,_,rs ++ [⟨Ao,k,co⟩],by omega,by go_num,f7.out,by rw[Zb0,Zge];exact f8.out,b8,y.out⟩
     ·obtain⟨F9,F3,G3,G5⟩:=hE.left
      go_simp;refine hK.out _ _ (λ_=>hE.cells) ?_;clear hK K F9 F3 G3 G5
      try simp only[Qb,Zg4,Zgk,Zgx]
      refine Zet (i:=3) (j:=8) rfl rfl (by kernel_rfl) (λK hK=>?_) (λK hK=>?_)
      ·obtain⟨m8,k8⟩:=Gz (X0.alloc (.cells #[.slice Ao k co] 97))
       obtain⟨t9,i8⟩:=Gz X0.heap.size;have r5:Below X0.heap.size X0 m8:=by rw[<- k8];exact(Qe _ _).alloc (Qc _) _
       have t8:Blk m8 t9 97 #[.slice Ao k co]:=by rw[<- k8,<- i8];exact Qp _ _ _
       have d7:=hE.below r5;have j7:=C7.below r5;go_simp;(try rw[k8]);(try rw[i8]);refine hK.out _ _ (λ_=>d7.cells) ?_;clear hK K k8 i8
       try simp only[Qb,Zg4,Zgk,Zgx]
       refine Zet (i:=4) (j:=8) rfl rfl (by kernel_rfl) (λK hK=>?_) (λK hK=>?_)
       ·rw[Gx (by rfl)]
        refine Za0 _ (.tmp 90) (.tmp 92) 96 rfl W0.heap.size 97 iS Tryz.underlying96 ki n0 n1 m5 (.slice A1 k c1) rs rfl d7.1.1.1 _ (some ⟨t9,0,none⟩) 1 1 [⟨Ao,k,co⟩] rfl (Zev t8) rfl b9 j7.size ?_;intro M7 w2 D4 n5 C4;have j6:=d7.app b0 (r:=⟨Ao,k,co⟩) rfl n4.out e9.out (λk' e=>Qu (f4.out k' e) e6.out) C D4 n5 C4;have D3:=Kept.grownC j7 n5 (λk' hk=>d7.1.1.1.row_ge k' hk);refine hK.out _ _ (λ_=>j6.cells) ?_;clear hK K
        try simp only[Qb,Zg4,Zgk,Zgx]
        refine Zgl 1 [10] rfl (by kernel_rfl) j6.cells ?_
        (refine tkA ?_;try simp only[Qb,Zg4,Zgk,Zgx,Gr,Gq,Gp])
        refine tk0 ?_;refine wpAnyL_o 8 λK hK=>?_;obtain⟨F1,l6⟩:=Gz (w2.alloc (.cells #[.bool ln,.slice lA lk lc,.bool lm,.slice lB lj ld] 73));obtain⟨y4,k6⟩:=Gz w2.heap.size;have q5:Below w2.heap.size w2 F1:=by rw[<- l6];exact(Qe _ _).alloc (Qc _) _
        have C5:Blk F1 y4 73 #[.bool ln,.slice lA lk lc,.bool lm,.slice lB lj ld]:=by rw[<- l6,<- k6];exact Qp _ _ _
        have c6:=j6.below q5;have q8:=D3.below q5;go_simp;(try rw[l6]);(try rw[k6]);refine hK.out _ _ (λ_=>c6.cells) ?_;clear hK K l6 k6
        try simp only[Qb,Zg4,Zgk,Zgx]
        refine wpAnyL_o 9 λK hK=>?_;rw[Gx (by rfl)];refine Za6 _ (.tmp 95) (.tmp 97) 97 rfl W0.heap.size 73 iN Tryz.underlying97 hi i4 k1 j1 (.slice A2 k c2) _ rfl c6.1.2.1 _ (some ⟨y4,0,none⟩) 1 1 [⟨ln,lA,lk,lc,lm,lB,lj,ld,dQ AQ k⟩] rfl (Zbm _ C5) rfl (by intro e he;rw[Qi]at he;subst he;exact c6.2.2.1) b2 q8.size ?_;intro F5 k3 z5 r6 y8 D5;obtain⟨f1,f3⟩:=c6.app b0 C z5 r6 y8 D5;have A8:=Kept.grownC q8 r6 (λk' hk=>c6.1.2.1.row_ge k' hk);refine hK.out _ _ (λ_=>⟨by rw[f3.cell];rfl,by rw[f3.cell];rfl⟩) ?_;clear hK K
        try simp only[Qb,Zg4,Zgk,Zgx]
        obtain⟨a7,a9,e7,-⟩:=f1.1.mflA;obtain⟨b1,b3,e8,-⟩:=f1.2.1.fl;rw[<- Zb0,Zcx]at e7;subst e7;obtain rfl:F5=.slice b1 (k+1) b3:=by rw[e8];congr 1;simp[Zel]
        clear e8;have f6:Kept (λk=>k=gx) k3 ((k3.setCell ⟨gx,0,none⟩ (.slice a7 (k+1) a9)).setCell ⟨gx,1,none⟩ (.slice b1 (k+1) b3)):=Kept.set_ (G:=λk=>k=gx) (Kept.set_ (G:=λk=>k=gx) (Qj _ _) (p:=⟨gx,0,none⟩) (.inl rfl) _) (p:=⟨gx,1,none⟩) (.inl rfl) _;have f5:Blk (k3.setCell ⟨gx,0,none⟩ (.slice a7 (k+1) a9)) gx 99 #[.slice a7 (k+1) a9,.slice A2 k c2]:=f3.set_ 0 _;have f7:Blk ((k3.setCell ⟨gx,0,none⟩ (.slice a7 (k+1) a9)).setCell ⟨gx,1,none⟩ (.slice b1 (k+1) b3)) gx 99 #[.slice a7 (k+1) a9,.slice b1 (k+1) b3]:=f5.set_ 1 _;have f8:=f1.box f3 (Zdv _ _ _ _ _ _) C f6;have u0:k3.cell? ⟨gx,0,none⟩=some (.slice A1 k c1):=by rw[f3.cell];rfl
        have c8:=f3.frozen 0;have u1:(k3.setCell ⟨gx,0,none⟩ (.slice a7 (k+1) a9)).cell? ⟨gx,1,none⟩=some (.slice A2 k c2):=by rw[f5.cell];rfl
        have d4:=f5.frozen 1;have y:=A8.trans f6;obtain⟨Z9,J⟩:∃ Z,((k3.setCell ⟨gx,0,none⟩ (.slice a7 (k+1) a9)).setCell ⟨gx,1,none⟩ (.slice b1 (k+1) b3))=Z:=⟨_,rfl⟩;rw[J]at f7 f8 y;replace f7:=Za f7;replace f8:=Za f8;replace y:=Za y;clear f1 f3 f6;refine Zm (i:=11) rfl (by kernel_rfl) (by kernel_rfl) (λK hK=>?_);go_simp;refine hK.out _ _ ?_;clear hK K
        try simp only[Qb,Zg4,Zgk,Zgx]
        refine Zi (i:=12) (v:=?v53) rfl (by kernel_rfl) (by kernel_rfl) (by kernel_rfl) (by kernel_rfl) (QK ⟨by kernel_rfl,?hy53⟩) (λhno=>absurd hno (by decide)) ?rest53
        case hy53=>(intro W2 _;go_simp;try with_reducible rfl)
        try simp only[Qb,Zg4,Zgk,Zgx,Gr,Gq,Gp]
        refine Zm (i:=13) rfl (by kernel_rfl) (by kernel_rfl) (λK hK=>?_);go_simp;(try rw[J]);refine hK.out _ _ ?_;clear hK K
        try simp only[Qb,Zg4,Zgk,Zgx]
        refine wpAnyL_fin ?_;clear J u0 c8 u1 d4 f5;go_wp2_with fail
        go_roundg (n-(k+1))
        case measure=>omega
        case rel=>exact⟨k+1,_,_,rs ++ [⟨Ao,k,co⟩],by omega,by go_num,f7.out,by rw[Zb0,Zge];exact f8.out,b8,y.out⟩
       ·obtain⟨F6,l7⟩:=Gz (m8.alloc (.cells #[.bool ln,.slice lA lk lc,.bool lm,.slice lB lj ld] 73))
        obtain⟨y5,k5⟩:=Gz m8.heap.size;have k2:Below m8.heap.size m8 F6:=by rw[<- l7];exact(Qe _ _).alloc (Qc _) _
        have z7:Blk F6 y5 73 #[.bool ln,.slice lA lk lc,.bool lm,.slice lB lj ld]:=by rw[<- l7,<- k5];exact Qp _ _ _
        have d5:=d7.below k2;have o6:=j7.below k2;have n2:=Zc k2 t8;go_simp;(try rw[l7]);(try rw[k5]);refine hK.out _ _ (λ_=>d5.cells) ?_;clear hK K l7 k5
        try simp only[Qb,Zg4,Zgk,Zgx]
        refine wpAnyL_o 4 λK hK=>?_;rw[Gx (by rfl)];refine Za0 _ (.tmp 90) (.tmp 92) 96 rfl W0.heap.size 97 iS Tryz.underlying96 ki n0 n1 m5 (.slice A1 k c1) rs rfl d5.1.1.1 _ (some ⟨t9,0,none⟩) 1 1 [⟨Ao,k,co⟩] rfl (Zev n2) rfl b9 o6.size ?_;intro N7 O1 B5 j5 A4;have b5:=d5.app b0 (r:=⟨Ao,k,co⟩) rfl n4.out e9.out (λk' e=>Qu (f4.out k' e) e6.out) C B5 j5 A4;have p9:=Kept.grownC o6 j5 (λk' hk=>d5.1.1.1.row_ge k' hk);have m7:=d5.far b0 j5 z7;refine hK.out _ _ (λ_=>b5.cells) ?_;clear hK K
        try simp only[Qb,Zg4,Zgk,Zgx]
        refine Zgl 1 [10] rfl (by kernel_rfl) b5.cells ?_
        (refine tkA ?_;try simp only[Qb,Zg4,Zgk,Zgx,Gr,Gq,Gp])
        refine tk0 ?_;refine wpAnyL_o 9 λK hK=>?_;rw[Gx (by rfl)];refine Za6 _ (.tmp 95) (.tmp 97) 97 rfl W0.heap.size 73 iN Tryz.underlying97 hi i4 k1 j1 (.slice A2 k c2) _ rfl b5.1.2.1 _ (some ⟨y5,0,none⟩) 1 1 [⟨ln,lA,lk,lc,lm,lB,lj,ld,dQ AQ k⟩] rfl (Zbm _ m7) rfl (by intro e he;rw[Qi]at he;subst he;exact b5.2.2.1) b2 p9.size ?_;intro J0 j3 E0 v4 C0 E9;obtain⟨f1,f3⟩:=b5.app b0 C E0 v4 C0 E9;have E3:=Kept.grownC p9 v4 (λk' hk=>b5.1.2.1.row_ge k' hk);refine hK.out _ _ (λ_=>⟨by rw[f3.cell];rfl,by rw[f3.cell];rfl⟩) ?_;clear hK K
        try simp only[Qb,Zg4,Zgk,Zgx]
        obtain⟨a7,a9,e7,-⟩:=f1.1.mflA;obtain⟨b1,b3,e8,-⟩:=f1.2.1.fl;rw[<- Zb0,Zcx]at e7;subst e7;obtain rfl:J0=.slice b1 (k+1) b3:=by rw[e8];congr 1;simp[Zel]
        clear e8;have f6:Kept (λk=>k=gx) j3 ((j3.setCell ⟨gx,0,none⟩ (.slice a7 (k+1) a9)).setCell ⟨gx,1,none⟩ (.slice b1 (k+1) b3)):=Kept.set_ (G:=λk=>k=gx) (Kept.set_ (G:=λk=>k=gx) (Qj _ _) (p:=⟨gx,0,none⟩) (.inl rfl) _) (p:=⟨gx,1,none⟩) (.inl rfl) _;have f5:Blk (j3.setCell ⟨gx,0,none⟩ (.slice a7 (k+1) a9)) gx 99 #[.slice a7 (k+1) a9,.slice A2 k c2]:=f3.set_ 0 _;have f7:Blk ((j3.setCell ⟨gx,0,none⟩ (.slice a7 (k+1) a9)).setCell ⟨gx,1,none⟩ (.slice b1 (k+1) b3)) gx 99 #[.slice a7 (k+1) a9,.slice b1 (k+1) b3]:=f5.set_ 1 _;have f8:=f1.box f3 (Zdv _ _ _ _ _ _) C f6;have u0:j3.cell? ⟨gx,0,none⟩=some (.slice A1 k c1):=by rw[f3.cell];rfl
        have c8:=f3.frozen 0;have u1:(j3.setCell ⟨gx,0,none⟩ (.slice a7 (k+1) a9)).cell? ⟨gx,1,none⟩=some (.slice A2 k c2):=by rw[f5.cell];rfl
        have d4:=f5.frozen 1;have y:=E3.trans f6;obtain⟨Z9,J⟩:∃ Z,((j3.setCell ⟨gx,0,none⟩ (.slice a7 (k+1) a9)).setCell ⟨gx,1,none⟩ (.slice b1 (k+1) b3))=Z:=⟨_,rfl⟩;rw[J]at f7 f8 y;replace f7:=Za f7;replace f8:=Za f8;replace y:=Za y;clear f1 f3 f6;refine Zm (i:=11) rfl (by kernel_rfl) (by kernel_rfl) (λK hK=>?_);go_simp;refine hK.out _ _ ?_;clear hK K
        try simp only[Qb,Zg4,Zgk,Zgx]
        refine Zi (i:=12) (v:=?v55) rfl (by kernel_rfl) (by kernel_rfl) (by kernel_rfl) (by kernel_rfl) (QK ⟨by kernel_rfl,?hy55⟩) (λhno=>absurd hno (by decide)) ?rest55
        case hy55=>(intro W2 _;go_simp;try with_reducible rfl)
        try simp only[Qb,Zg4,Zgk,Zgx,Gr,Gq,Gp]
        refine Zm (i:=13) rfl (by kernel_rfl) (by kernel_rfl) (λK hK=>?_);go_simp;(try rw[J]);refine hK.out _ _ ?_;clear hK K
        try simp only[Qb,Zg4,Zgk,Zgx]
        refine wpAnyL_fin ?_;clear J u0 c8 u1 d4 f5;go_wp2_with fail
        go_roundg (n-(k+1))
        case measure=>omega
        case rel=>exact⟨k+1,_,_,rs ++ [⟨Ao,k,co⟩],by omega,by go_num,f7.out,by rw[Zb0,Zge];exact f8.out,b8,y.out⟩
      ·obtain⟨m4,k9⟩:=Gz (X0.alloc (.cells #[.bool ln,.slice lA lk lc,.bool lm,.slice lB lj ld] 73))
       obtain⟨w8,i9⟩:=Gz X0.heap.size;have r8:Below X0.heap.size X0 m4:=by rw[<- k9];exact(Qe _ _).alloc (Qc _) _
       have A6:Blk m4 w8 73 #[.bool ln,.slice lA lk lc,.bool lm,.slice lB lj ld]:=by rw[<- k9,<- i9];exact Qp _ _ _
       have t5:=hE.below r8;have E6:=C7.below r8;go_simp;(try rw[k9]);(try rw[i9]);refine hK.out _ _ (λ_=>t5.cells) ?_;clear hK K k9 i9
       try simp only[Qb,Zg4,Zgk,Zgx]
       refine wpAnyL_o 3 λK hK=>?_;obtain⟨I8,l5⟩:=Gz (m4.alloc (.cells #[.slice Ao k co] 97));obtain⟨w4,i6⟩:=Gz m4.heap.size;have j8:Below m4.heap.size m4 I8:=by rw[<- l5];exact(Qe _ _).alloc (Qc _) _
       have B7:Blk I8 w4 97 #[.slice Ao k co]:=by rw[<- l5,<- i6];exact Qp _ _ _
       have c9:=t5.below j8;have n8:=E6.below j8;have m9:=Zc j8 A6;go_simp;(try rw[l5]);(try rw[i6]);refine hK.out _ _ (λ_=>c9.cells) ?_;clear hK K l5 i6
       try simp only[Qb,Zg4,Zgk,Zgx]
       refine wpAnyL_o 4 λK hK=>?_;rw[Gx (by rfl)];refine Za0 _ (.tmp 90) (.tmp 92) 96 rfl W0.heap.size 97 iS Tryz.underlying96 ki n0 n1 m5 (.slice A1 k c1) rs rfl c9.1.1.1 _ (some ⟨w4,0,none⟩) 1 1 [⟨Ao,k,co⟩] rfl (Zev B7) rfl b9 n8.size ?_;intro N4 O6 E8 j2 D0;have b7:=c9.app b0 (r:=⟨Ao,k,co⟩) rfl n4.out e9.out (λk' e=>Qu (f4.out k' e) e6.out) C E8 j2 D0;have s6:=Kept.grownC n8 j2 (λk' hk=>c9.1.1.1.row_ge k' hk);have f9:=c9.far b0 j2 m9;refine hK.out _ _ (λ_=>b7.cells) ?_;clear hK K
       try simp only[Qb,Zg4,Zgk,Zgx]
       refine Zgl 1 [10] rfl (by kernel_rfl) b7.cells ?_
       (refine tkA ?_;try simp only[Qb,Zg4,Zgk,Zgx,Gr,Gq,Gp])
       refine tk0 ?_;refine wpAnyL_o 9 λK hK=>?_;rw[Gx (by rfl)];refine Za6 _ (.tmp 95) (.tmp 97) 97 rfl W0.heap.size 73 iN Tryz.underlying97 hi i4 k1 j1 (.slice A2 k c2) _ rfl b7.1.2.1 _ (some ⟨w8,0,none⟩) 1 1 [⟨ln,lA,lk,lc,lm,lB,lj,ld,dQ AQ k⟩] rfl (Zbm _ f9) rfl (by intro e he;rw[Qi]at he;subst he;exact b7.2.2.1) b2 s6.size ?_;intro J3 j4 D2 s9 D9 D1;obtain⟨f1,f3⟩:=b7.app b0 C D2 s9 D9 D1;have E1:=Kept.grownC s6 s9 (λk' hk=>b7.1.2.1.row_ge k' hk);refine hK.out _ _ (λ_=>⟨by rw[f3.cell];rfl,by rw[f3.cell];rfl⟩) ?_;clear hK K
       try simp only[Qb,Zg4,Zgk,Zgx]
       obtain⟨a7,a9,e7,-⟩:=f1.1.mflA;obtain⟨b1,b3,e8,-⟩:=f1.2.1.fl;rw[<- Zb0,Zcx]at e7;subst e7;obtain rfl:J3=.slice b1 (k+1) b3:=by rw[e8];congr 1;simp[Zel]
       clear e8;have f6:Kept (λk=>k=gx) j4 ((j4.setCell ⟨gx,0,none⟩ (.slice a7 (k+1) a9)).setCell ⟨gx,1,none⟩ (.slice b1 (k+1) b3)):=Kept.set_ (G:=λk=>k=gx) (Kept.set_ (G:=λk=>k=gx) (Qj _ _) (p:=⟨gx,0,none⟩) (.inl rfl) _) (p:=⟨gx,1,none⟩) (.inl rfl) _;have f5:Blk (j4.setCell ⟨gx,0,none⟩ (.slice a7 (k+1) a9)) gx 99 #[.slice a7 (k+1) a9,.slice A2 k c2]:=f3.set_ 0 _;have f7:Blk ((j4.setCell ⟨gx,0,none⟩ (.slice a7 (k+1) a9)).setCell ⟨gx,1,none⟩ (.slice b1 (k+1) b3)) gx 99 #[.slice a7 (k+1) a9,.slice b1 (k+1) b3]:=f5.set_ 1 _;have f8:=f1.box f3 (Zdv _ _ _ _ _ _) C f6;have u0:j4.cell? ⟨gx,0,none⟩=some (.slice A1 k c1):=by rw[f3.cell];rfl
       have c8:=f3.frozen 0;have u1:(j4.setCell ⟨gx,0,none⟩ (.slice a7 (k+1) a9)).cell? ⟨gx,1,none⟩=some (.slice A2 k c2):=by rw[f5.cell];rfl
       have d4:=f5.frozen 1;have y:=E1.trans f6;obtain⟨Z9,J⟩:∃ Z,((j4.setCell ⟨gx,0,none⟩ (.slice a7 (k+1) a9)).setCell ⟨gx,1,none⟩ (.slice b1 (k+1) b3))=Z:=⟨_,rfl⟩;rw[J]at f7 f8 y;replace f7:=Za f7;replace f8:=Za f8;replace y:=Za y;clear f1 f3 f6;refine Zm (i:=11) rfl (by kernel_rfl) (by kernel_rfl) (λK hK=>?_);go_simp;refine hK.out _ _ ?_;clear hK K
       try simp only[Qb,Zg4,Zgk,Zgx]
       refine Zi (i:=12) (v:=?v57) rfl (by kernel_rfl) (by kernel_rfl) (by kernel_rfl) (by kernel_rfl) (QK ⟨by kernel_rfl,?hy57⟩) (λhno=>absurd hno (by decide)) ?rest57
       case hy57=>(intro W2 _;go_simp;try with_reducible rfl)
       try simp only[Qb,Zg4,Zgk,Zgx,Gr,Gq,Gp]
       refine Zm (i:=13) rfl (by kernel_rfl) (by kernel_rfl) (λK hK=>?_);go_simp;(try rw[J]);refine hK.out _ _ ?_;clear hK K
       try simp only[Qb,Zg4,Zgk,Zgx]
       refine wpAnyL_fin ?_;clear J u0 c8 u1 d4 f5;go_wp2_with fail
       go_roundg (n-(k+1))
       case measure=>omega
       case rel=>exact⟨k+1,_,_,rs ++ [⟨Ao,k,co⟩],by omega,by go_num,f7.out,by rw[Zb0,Zge];exact f8.out,b8,y.out⟩
    | succ t2 =>
     obtain rfl:t2=i-(k+1):=by omega
     have U:k<i:=by omega
     have t2:decide ((k:Int)<(i:Int))=true:=Gv (by omega);have bki:(k:Int)<(i:Int):=by omega
     have bkn:(k:Int)<(n:Int):=by omega
     obtain⟨yn,yA,yk,yc,ym,yB,yj,yd,⟨r0,r1,r2,r3⟩,hY⟩:=(hR.out.below h6.out).atS (show k<n by omega);rw[x6.out]at hY;obtain⟨V3,K1,u6,p3,s3⟩:=Zbe wk 73 #[.bool false,.slice none 0 0,.bool false,.slice none 0 0];obtain⟨gs,s5⟩:=Gz wk.heap.size;rw[s5]at p3 s3;obtain⟨u0,u1,u2,u3,v0,v1,v2,v3⟩:=p3.four;obtain⟨W4,G7,p4,G1,s4⟩:=Zbu yn yA yk yc ym yB yj yd p3;have v6:Below wk.heap.size wk W4:=u6.trans (G1.to_below (λk e=>by omega) u6.size);have M1:Hid (W4.heap.size=gs+1):=Za (by rw[s4,s3]);have G4:=Za (hY.below v6);have M3:Hid (gl<gs):=Za (by have:=c4.lt;omega);replace v6:=Za v6;replace a4:=Za a4;replace d8:=Za d8;replace c4:=Za c4;replace d9:=Za d9;replace p4:=Za p4;clear hY u6 G1 s3 s4 c5;go_wp2_with fail;(try rw[s5]);(try rw[G7]);clear u0 u1 u2 u3 v0 v1 v2 v3 p3 K1 G7 r0 r1 r2 r3 H1 J2 J1 J5 l0 l1 l2 l3 m0 m1 m2 m3;replace s5:=Za s5
     go_loopg [32] k (λt jv wj=>∃ (j:Nat) (sn:Bool) (sA:Option Addr) (sk sc:Nat) (sm:Bool) (sB:Option Addr) (sj sd:Nat),j+t=k/\jv=.int .i64 j/\Blk wj gs 73 #[.bool sn,.slice sA sk sc,.bool sm,.slice sB sj sd]/\Hid (Fr wj sn sA sk sc sm sB sj sd (Z6 AQ j i k))/\Kept (λg=>g=gs) W4 wj)
     case atStart=>exact⟨0,_,_,_,_,_,_,_,_,by omega,rfl,p4.out,G4,Qj _ _⟩
     case round =>
      clear p4 G4;obtain⟨wj,rfl⟩:=Gy wr;obtain⟨j,sn,sA,sk,sc,sm,sB,sj,sd,O3,rfl,B9,hs,D8⟩:=hrel;have M6:=M1.out;have N0:=s5.out;have n9:Hid (Below wk.heap.size wk wj):=Za (v6.out.trans (D8.to_below (λk e=>by omega) (by omega)));have g5:Hid (Below wi.heap.size wi wj):=Za (h6.out.trans (n9.out.mono h6.out.size));have u5:=Zc g5.out f.out;have H7:wj.cell? ⟨gx,0,none⟩=some (.slice A1 i c1):=by rw[u5.cell];rfl
      have y6:wj.cell? ⟨gx,1,none⟩=some (.slice A2 i c2):=by rw[u5.cell];rfl
      obtain⟨s0,s1,s2,s3,y0,y1,y2,y3⟩:=B9.four;cases gk with
      | zero =>
       obtain rfl:j=k:=by omega
       have t3:decide ((j:Int)<(j:Int))=false:=by simp
       obtain⟨gd,O,dn,dA,dk,dc,dm,dB,dj,dd,rfl,⟨d0,d1,d2,d3⟩,hD⟩:=(h2.out.below g5.out).at_ U;rw[Zpz U]at hD;replace hD:=Za hD;go_wp2_with fail;obtain⟨X0,a1⟩:=Gz wj.drew;have a0:Below wj.heap.size wj X0:=by rw[<- a1];exact Zf (Qe _ _) 1
       have u:Hid (∀ wx,Below wj.heap.size wj wx->wx.cell? ⟨gs,0,none⟩=some (.bool sn)/\wx.cell? ⟨gs,1,none⟩=some (.slice sA sk sc)/\wx.cell? ⟨gs,2,none⟩=some (.bool sm)/\wx.cell? ⟨gs,3,none⟩=some (.slice sB sj sd)/\wx.cell? ⟨gx,1,none⟩=some (.slice (some ⟨gd,O,none⟩) i c2)/\wx.cell? ⟨gd,O+j*4,none⟩=some (.bool dn)/\wx.cell? ⟨gd,O+j*4+1,none⟩=some (.slice dA dk dc)/\wx.cell? ⟨gd,O+j*4+2,none⟩=some (.bool dm)/\wx.cell? ⟨gd,O+j*4+3,none⟩=some (.slice dB dj dd)):=Za (λwx f=>⟨Zb f s0,Zb f s1,Zb f s2,Zb f s3,Zb f y6,Zb f d0,Zb f d1,Zb f d2,Zb f d3⟩);refine wp_heldS [] hmx u (by rw[a1];exact a0) (λhxs=>?_);rw[a1];refine Zjw 7 [0,1,2,3,4,5,6] rfl (by kernel_rfl) (u.out _ a0) ?_
       iterate 7 (refine tkA ?_;try simp only[Qb,Zg4,Zgk,Zgx,Gr,Gq,Gp])
       refine tk0 ?_;refine wpAnyL_o 7 λK hK=>?_;go_simp;refine(Zm0 sn sm dn dm sA sB dA dB sk sc sj sd dk dc dj dd _ _ X0 (hs.out.below a0) (hD.out.below a0) (fac_q hF.out a3 U I.out).1 (fac_q hF.out a3 U I.out).2.1 (fac_q hF.out a3 U I.out).2.2).mono ?_;rintro e w5 ⟨b6,an,aA,ak,ac,am,aB,aj,ad,rfl,hT⟩;have a6:=a0.trans (b6.mono a0.size);refine hK.out _ _ (λ_=>u.out _ a6) ?_;clear hK K
       try simp only[Qb,Zg4,Zgk,Zgx]
       obtain⟨Y1,a2⟩:=Gz (w5.alloc (.cells #[.bool an,.slice aA ak ac,.bool am,.slice aB aj ad] 73));obtain⟨g8,a5⟩:=Gz w5.heap.size;have g0:Below w5.heap.size w5 Y1:=by rw[<- a2];exact(Qe _ _).alloc (Qc _) _
       have g2:Blk Y1 g8 73 #[.bool an,.slice aA ak ac,.bool am,.slice aB aj ad]:=by rw[<- a2,<- a5];exact Qp _ _ _
       have V:Below wj.heap.size wj Y1:=a6.trans (g0.mono a6.size);refine wpAnyL_o 8 λK hK=>?_;go_simp;(try rw[a2]);(try rw[a5]);refine hK.out _ _ (λ_=>u.out _ V) ?_;clear hK K a2 a5
       try simp only[Qb,Zg4,Zgk,Zgx]
       have F4:=hT.below g0;have c0:Below wk.heap.size wk Y1:=n9.out.trans (V.mono n9.out.size);have A9:=a4.out.kept c0;have I3:W2.heap.size<=Y1.heap.size:=Qf d9.out.size c0.size;have q4:(Zjc AQ i j).length+1<=1000:=by rw[Zf7];omega
       refine wpAnyL_o 9 λK hK=>?_;rw[Gx (by rfl)];refine Za6 _ (.tmp 57) (.tmp 65) 97 rfl W2.heap.size 73 iN Tryz.underlying97 hi i4 k1 j1 (.slice Ao j co) _ rfl A9 _ (some ⟨g8,0,none⟩) 1 1 [⟨an,aA,ak,ac,am,aB,aj,ad,Z6 AQ j i j/dQ AQ j⟩] rfl (Zbm _ g2) rfl (by intro e he;rw[Qi]at he;subst he;exact F4) q4 I3 ?_;intro vY Y2 I1 h0 D6 K9;have h7:OwnF 73 Y2 W2.heap.size vY (Zjc AQ i (j+1)):=by rw[Zx4];exact I1
       obtain⟨Ap,cp,e4,r7⟩:=h7.fl;rw[Zf7]at e4 r7;subst e4;have g4:=A9.row_ge;have q6:=a4.out.blt;have j9:Hid (Kept (λg=>g=gl) W2 Y1):=Za (d9.out.below c0);have w3:Hid (Kept (λg=>g=gl) W2 Y2):=Za ⟨h0.os.trans j9.out.os,h0.tape.trans j9.out.tape,h0.output.trans j9.out.output,Qf j9.out.size h0.size,λg hg hne=>(h0.block g (QL hg j9.out.size) (λe=>by have:=g4 g (by first|exact e|exact e.symm);omega)).trans (j9.out.block g hg hne)⟩;have x3:Hid (Blk Y2 gl 73 #[.bool ln,.slice lA lk lc,.bool lm,.slice lB lj ld]):=Za ((h0.block gl (QL c4.out.lt c0.size) (λe=>by have:=g4 gl (by first|exact e|exact e.symm);omega)).trans (Zc c0 c4.out));have K0:Hid (Fr Y2 ln lA lk lc lm lB lj ld (Z6 AQ j i i)):=Za ⟨⟨hl.out.1.1,hl.out.1.2.1,D6 _ _ _ _ (hl.out.below c0).1.2.2⟩,⟨hl.out.2.1,hl.out.2.2.1,D6 _ _ _ _ (hl.out.below c0).2.2.2⟩⟩;have x9:Hid (Below wi.heap.size wi Y2):=Za (q9.out.trans (w3.out.to_below (λg e=>by omega) (by omega)));obtain⟨_,_,_,_,_,_,_,_,⟨I0,-⟩,-⟩:=h2.out.atS U;have K4:gd<wi.heap.size:=Zo I0
       have T:∀ (g o:Nat) (v:Value),(∀ k',(Value.slice Ao j co).ownBlock=some k'->k'≠g)->Y1.cell? ⟨g,o,none⟩=some v->Y2.cell? ⟨g,o,none⟩=some v:=λg o v hne hv=>by
        rw[<- hv];exact World.cell?_of_block (h0.block g (Zo hv) (λe=>hne g (by first|exact e|exact e.symm) rfl))
       have o5:Y2.cell? ⟨gs,0,none⟩=some (.bool sn)/\Y2.cell? ⟨gs,1,none⟩=some (.slice sA sk sc)/\Y2.cell? ⟨gs,2,none⟩=some (.bool sm)/\Y2.cell? ⟨gs,3,none⟩=some (.slice sB sj sd)/\Y2.cell? ⟨gx,1,none⟩=some (.slice (some ⟨gd,O,none⟩) i c2)/\Y2.cell? ⟨gd,O+j*4,none⟩=some (.bool dn)/\Y2.cell? ⟨gd,O+j*4+1,none⟩=some (.slice dA dk dc)/\Y2.cell? ⟨gd,O+j*4+2,none⟩=some (.bool dm)/\Y2.cell? ⟨gd,O+j*4+3,none⟩=some (.slice dB dj dd):=by
        obtain⟨p0,p1,p2,p3,p4,p5,p6,p7,p8⟩:=u.out _ V;refine⟨T _ _ _ (λk' e=>by have:=q6 k' e;omega) p0,T _ _ _ (λk' e=>by have:=q6 k' e;omega) p1,T _ _ _ (λk' e=>by have:=q6 k' e;omega) p2,T _ _ _ (λk' e=>by have:=q6 k' e;omega) p3,T _ _ _ (λk' e=>by have:=g4 k' e;omega) p4,T _ _ _ (λk' e=>by have:=g4 k' e;omega) p5,T _ _ _ (λk' e=>by have:=g4 k' e;omega) p6,T _ _ _ (λk' e=>by have:=g4 k' e;omega) p7,T _ _ _ (λk' e=>by have:=g4 k' e;omega) p8⟩
       refine hK.out _ _ (λ_=>o5) ?_;clear hK K I0 T
       try simp only[Qb,Zg4,Zgk,Zgx]
       refine Zgl 1 [10] rfl (by kernel_rfl) o5 ?_
       (refine tkA ?_;try simp only[Qb,Zg4,Zgk,Zgx,Gr,Gq,Gp])
       refine tk0 ?_;refine wpAnyL_fin ?_;replace h7:=Za h7;replace r7:=Za r7;clear o5 K4 u hxs a0 V a6 g2 g0 a1 I1 h0 D6 K9 g4 q6 A9 F4 hT c0 j9 I3 q4 s0 s1 s2 s3 y0 y1 y2 y3 H7 y6 d0 d1 d2 d3 hD B9 hs D8 u5 n9 g5 hl c4 d9 a4 d8;obtain⟨l0,l1,l2,l3,-⟩:=x3.out.four;have G9:=Zc x9.out f.out;have L6:Y2.cell? ⟨gx,1,none⟩=some (.slice (some ⟨gd,O,none⟩) i c2):=by rw[G9.cell];rfl
       obtain⟨dn,dA,dk,dc,dm,dB,dj,dd,⟨d0,d1,d2,d3⟩,hD⟩:=(h2.out.below x9.out).atS U;rw[Zpz U]at hD;replace hD:=Za hD;obtain⟨go,oo,on_,oA,ok,oc,om,oB,oj,od,rfl,⟨o0,o1,o2,o3⟩,hO⟩:=r7.out.at_ (QB j);rw[Zlq (QB j)]at hO;replace hO:=Za hO;have B6:=r7.out.cap;unfold maxLen at B6;have bjs:(j:Int)<((j:Int)+1):=by omega
       have M9:(j:Int)<((j+1:Nat):Int):=by omega
       have bji:(j:Int)<(i:Int):=by omega
       go_wp2_with fail;obtain⟨X0,a1⟩:=Gz Y2.drew;have a0:Below Y2.heap.size Y2 X0:=by rw[<- a1];exact Zf (Qe _ _) 1
       have u:Hid (∀ wx,Below Y2.heap.size Y2 wx->wx.cell? ⟨gl,0,none⟩=some (.bool ln)/\wx.cell? ⟨gl,1,none⟩=some (.slice lA lk lc)/\wx.cell? ⟨gl,2,none⟩=some (.bool lm)/\wx.cell? ⟨gl,3,none⟩=some (.slice lB lj ld)/\wx.cell? ⟨go,oo+j*4,none⟩=some (.bool on_)/\wx.cell? ⟨go,oo+j*4+1,none⟩=some (.slice oA ok oc)/\wx.cell? ⟨go,oo+j*4+2,none⟩=some (.bool om)/\wx.cell? ⟨go,oo+j*4+3,none⟩=some (.slice oB oj od)/\wx.cell? ⟨gx,1,none⟩=some (.slice (some ⟨gd,O,none⟩) i c2)/\wx.cell? ⟨gd,O+j*4,none⟩=some (.bool dn)/\wx.cell? ⟨gd,O+j*4+1,none⟩=some (.slice dA dk dc)/\wx.cell? ⟨gd,O+j*4+2,none⟩=some (.bool dm)/\wx.cell? ⟨gd,O+j*4+3,none⟩=some (.slice dB dj dd)):=Za (λwx f=>⟨Zb f l0,Zb f l1,Zb f l2,Zb f l3,Zb f o0,Zb f o1,Zb f o2,Zb f o3,Zb f L6,Zb f d0,Zb f d1,Zb f d2,Zb f d3⟩);refine wp_heldS [17] hmx u (by rw[a1];exact a0) (λhxs=>?_);rw[a1];refine Zjw 14 [0,1,2,3,4,5,6,7,8,9,10,11,12,13] rfl (by kernel_rfl) (u.out _ a0) ?_
       iterate 14 (refine tkA ?_;try simp only[Qb,Zg4,Zgk,Zgx,Gr,Gq,Gp])
       refine tk0 ?_;obtain⟨Y1,a2⟩:=Gz (X0.alloc (.cells #[.bool on_,.slice oA ok oc,.bool om,.slice oB oj od,.bool dn,.slice dA dk dc,.bool dm,.slice dB dj dd] 73));obtain⟨g8,a5⟩:=Gz X0.heap.size;have g0:Below X0.heap.size X0 Y1:=by rw[<- a2];exact(Qe _ _).alloc (Qc _) _
       have g2:Blk Y1 g8 73 #[.bool on_,.slice oA ok oc,.bool om,.slice oB oj od,.bool dn,.slice dA dk dc,.bool dm,.slice dB dj dd]:=by rw[<- a2,<- a5];exact Qp _ _ _
       have V:Below Y2.heap.size Y2 Y1:=a0.trans (g0.mono a0.size);refine wpAnyL_o 14 λK hK=>?_;go_simp;(try rw[a2]);(try rw[a5]);refine hK.out _ _ (λ_=>u.out _ V) ?_;clear hK K a2 a5
       try simp only[Qb,Zg4,Zgk,Zgx]
       refine wpAnyL_o 15 λK hK=>?_;go_simp;refine(Zbw on_ oA ok oc om oB oj od (lQ AQ i j) (some ⟨g8,0,none⟩) 2 2 [lQ AQ i j,dQ AQ j] Y1 (hO.out.below V) (FL.pair2 g2 (hO.out.below V) (hD.out.below V)) (by omega) (Zl2 hF.out a3 U I.out).1 (Zl2 hF.out a3 U I.out).2).mono ?_;rintro e w5 ⟨b6,an,aA,ak,ac,am,aB,aj,ad,rfl,hT⟩;have a6:=V.trans (b6.mono V.size);refine hK.out _ _ (λ_=>u.out _ a6) ?_;clear hK K
       try simp only[Qb,Zg4,Zgk,Zgx]
       refine wpAnyL_o 16 λK hK=>?_;go_simp;refine(Ze2 ln lm an am lA lB aA aB lk lc lj ld ak ac aj ad _ _ w5 (K0.out.below a6) hT (Zvk hF.out a3 U I.out).1 (Zvk hF.out a3 U I.out).2).mono ?_;rintro e w6 ⟨z9,bn,bA,bk,bc,bm,bB,bj,bd,rfl,hU⟩;have k7:=a6.trans (z9.mono a6.size);refine hK.out _ _ (λ_=>u.out _ k7) ?_;clear hK K
       try simp only[Qb,Zg4,Zgk,Zgx]
       have c3:Below Y2.heap.size Y2 w6:=k7;have e5:=Zc c3 x3.out;obtain⟨f0,f1,f2,f3,F0,C6,A3,A5⟩:=e5.four;obtain⟨W7,t7,p7,h3,s7⟩:=Zbu bn bA bk bc bm bB bj bd e5;have q7:=Za (hU.keptN h3 e5 (Zb1 _ _ _ _ _ _ _ _));have B4:=Za ((h7.out.kept c3).keptG e5 (Zb1 _ _ _ _ _ _ _ _) (λe=>by have h8:=h7.out.row_ge gl e;omega) h3);have y9:Hid (Kept (λg=>g=gl) W2 W7):=Za ((w3.out.below c3).trans h3);replace p7:=Za p7;clear h3 hU hT;refine Zm (i:=17) rfl (by kernel_rfl) (by kernel_rfl) (λK hK=>?_);go_simp;(try rw[t7]);refine hK.out _ _ ?_;clear hK K
       try simp only[Qb,Zg4,Zgk,Zgx]
       refine wpAnyL_fin ?_;clear t7 f0 f1 f2 f3 F0 C6 A3 A5 e5 u hxs a0 V a6 k7 c3 g2 g0 a1
       have C9:Hid (Fr W7 bn bA bk bc bm bB bj bd (Z6 AQ (j+1) i i)):=Za (by
        rw[Zl9 hF.out.sym U (Qc _) a3 (I.out.ne U)];exact q7.out)
       have L0:Hid (OwnF 73 W7 W2.heap.size (.slice (some ⟨go,oo,none⟩) (j+1) cp) (Zjc AQ i (j+1))):=Za (B4.out);clear q7;go_wp2_with fail
       go_roundg (i-(j+1))
       case measure=>omega
       case rel=>exact⟨j+1,_,_,_,_,_,_,_,_,by omega,by go_num,L0.out,p7.out,C9,y9.out⟩
      | succ t3 =>
       obtain rfl:t3=k-(j+1):=by omega
       have h5:j<k:=by omega
       have t3:decide ((j:Int)<(k:Int))=true:=Gv (by omega);have bjk:(j:Int)<(k:Int):=by omega
       have bji:(j:Int)<(i:Int):=by omega
       have N6:(k:Int)<(i:Int):=by omega
       obtain⟨go,oo,on_,oA,ok,oc,om,oB,oj,od,rfl,⟨o0,o1,o2,o3⟩,hO⟩:=(d8.out.below n9.out).at_ h5;obtain⟨g1,J8,A',n',c',rfl,ck,m6⟩:=(xU.out.below g5.out).at_ U;rw[Zmm U]at m6;have J4:n'=k:=by rw[<- m6.len,Zf7]
       rw[J4]at m6 ck;clear J4 n';have J9:=m6.cap;unfold maxLen at J9;obtain⟨gq,oq,qn,qA,qk,qc,qm,qB,qj,qd,rfl,⟨q0,q1,q2,q3⟩,hQ⟩:=m6.at_ h5;obtain⟨gd,O,dn,dA,dk,dc,dm,dB,dj,dd,rfl,⟨d0,d1,d2,d3⟩,hD⟩:=(h2.out.below g5.out).at_ (show j<i by omega);rw[Zlq h5]at hO hQ;rw[Zpz (show j<i by omega)]at hD;replace hO:=Za hO;replace hQ:=Za hQ;replace hD:=Za hD;clear m6;go_wp2_with fail;obtain⟨X0,a1⟩:=Gz wj.drew;have a0:Below wj.heap.size wj X0:=by rw[<- a1];exact Zf (Qe _ _) 1
       have u:Hid (∀ wx,Below wj.heap.size wj wx->wx.cell? ⟨gs,0,none⟩=some (.bool sn)/\wx.cell? ⟨gs,1,none⟩=some (.slice sA sk sc)/\wx.cell? ⟨gs,2,none⟩=some (.bool sm)/\wx.cell? ⟨gs,3,none⟩=some (.slice sB sj sd)/\wx.cell? ⟨go,oo+j*4,none⟩=some (.bool on_)/\wx.cell? ⟨go,oo+j*4+1,none⟩=some (.slice oA ok oc)/\wx.cell? ⟨go,oo+j*4+2,none⟩=some (.bool om)/\wx.cell? ⟨go,oo+j*4+3,none⟩=some (.slice oB oj od)/\wx.cell? ⟨gx,0,none⟩=some (.slice (some ⟨g1,J8,none⟩) i c1)/\wx.cell? ⟨g1,J8+k,none⟩=some (.slice (some ⟨gq,oq,none⟩) k c')/\wx.cell? ⟨gq,oq+j*4,none⟩=some (.bool qn)/\wx.cell? ⟨gq,oq+j*4+1,none⟩=some (.slice qA qk qc)/\wx.cell? ⟨gq,oq+j*4+2,none⟩=some (.bool qm)/\wx.cell? ⟨gq,oq+j*4+3,none⟩=some (.slice qB qj qd)/\wx.cell? ⟨gx,1,none⟩=some (.slice (some ⟨gd,O,none⟩) i c2)/\wx.cell? ⟨gd,O+j*4,none⟩=some (.bool dn)/\wx.cell? ⟨gd,O+j*4+1,none⟩=some (.slice dA dk dc)/\wx.cell? ⟨gd,O+j*4+2,none⟩=some (.bool dm)/\wx.cell? ⟨gd,O+j*4+3,none⟩=some (.slice dB dj dd)):=Za (λwx f=>⟨Zb f s0,Zb f s1,Zb f s2,Zb f s3,Zb f o0,Zb f o1,Zb f o2,Zb f o3,Zb f H7,Zb f ck,Zb f q0,Zb f q1,Zb f q2,Zb f q3,Zb f y6,Zb f d0,Zb f d1,Zb f d2,Zb f d3⟩);refine wp_heldS [21] hmx u (by rw[a1];exact a0) (λhxs=>?_);rw[a1];refine Zjw 18 [0,1,2,3,4,5,6,7,8,9,10,11,12,13,14,15,16,17] rfl (by kernel_rfl) (u.out _ a0) ?_
       iterate 18 (refine tkA ?_;try simp only[Qb,Zg4,Zgk,Zgx,Gr,Gq,Gp])
       refine tk0 ?_;obtain⟨Y1,a2⟩:=Gz (X0.alloc (.cells #[.bool qn,.slice qA qk qc,.bool qm,.slice qB qj qd,.bool dn,.slice dA dk dc,.bool dm,.slice dB dj dd] 73));obtain⟨g8,a5⟩:=Gz X0.heap.size;have g0:Below X0.heap.size X0 Y1:=by rw[<- a2];exact(Qe _ _).alloc (Qc _) _
       have g2:Blk Y1 g8 73 #[.bool qn,.slice qA qk qc,.bool qm,.slice qB qj qd,.bool dn,.slice dA dk dc,.bool dm,.slice dB dj dd]:=by rw[<- a2,<- a5];exact Qp _ _ _
       have V:Below wj.heap.size wj Y1:=a0.trans (g0.mono a0.size);refine wpAnyL_o 18 λK hK=>?_;go_simp;(try rw[a2]);(try rw[a5]);refine hK.out _ _ (λ_=>u.out _ V) ?_;clear hK K a2 a5
       try simp only[Qb,Zg4,Zgk,Zgx]
       refine wpAnyL_o 19 λK hK=>?_;go_simp;refine(Zbw on_ oA ok oc om oB oj od (lQ AQ i j) (some ⟨g8,0,none⟩) 2 2 [lQ AQ k j,dQ AQ j] Y1 (hO.out.below V) (FL.pair2 g2 (hQ.out.below V) (hD.out.below V)) (by omega) (Zox hF.out a3 U h5 I.out).1 (Zox hF.out a3 U h5 I.out).2).mono ?_;rintro e w5 ⟨b6,an,aA,ak,ac,am,aB,aj,ad,rfl,hT⟩;have a6:=V.trans (b6.mono V.size);refine hK.out _ _ (λ_=>u.out _ a6) ?_;clear hK K
       try simp only[Qb,Zg4,Zgk,Zgx]
       refine wpAnyL_o 20 λK hK=>?_;go_simp;refine(Ze2 sn sm an am sA sB aA aB sk sc sj sd ak ac aj ad _ _ w5 (hs.out.below a6) hT (Zyf hF.out a3 U h5 I.out).1 (Zyf hF.out a3 U h5 I.out).2).mono ?_;rintro e w6 ⟨z9,bn,bA,bk,bc,bm,bB,bj,bd,rfl,hU⟩;have k7:=a6.trans (z9.mono a6.size);refine hK.out _ _ (λ_=>u.out _ k7) ?_;clear hK K
       try simp only[Qb,Zg4,Zgk,Zgx]
       have c3:Below wj.heap.size wj w6:=k7;have e5:=Zc c3 B9;obtain⟨f0,f1,f2,f3,F0,C6,A3,A5⟩:=e5.four;obtain⟨W7,t7,p7,h3,s7⟩:=Zbu bn bA bk bc bm bB bj bd e5;have q7:=Za (hU.keptN h3 e5 (Zb1 _ _ _ _ _ _ _ _));have y9:Hid (Kept (λg=>g=gs) W4 W7):=Za ((D8.below c3).trans h3);replace p7:=Za p7;clear h3 hU hT;refine Zm (i:=21) rfl (by kernel_rfl) (by kernel_rfl) (λK hK=>?_);go_simp;(try rw[t7]);refine hK.out _ _ ?_;clear hK K
       try simp only[Qb,Zg4,Zgk,Zgx]
       refine wpAnyL_fin ?_;clear t7 f0 f1 f2 f3 F0 C6 A3 A5 e5 u hxs a0 V a6 k7 c3 g2 g0 a1
       have C9:Hid (Fr W7 bn bA bk bc bm bB bj bd (Z6 AQ (j+1) i k)):=Za (by
        rw[Zl9 hF.out.sym h5 (by omega) a3 (I.out.ne (by omega))];exact q7.out)
       clear q7;go_wp2_with fail
       go_roundg (k-(j+1))
       case measure=>omega
       case rel=>exact⟨j+1,_,_,_,_,_,_,_,_,by omega,by go_num,p7.out,C9,y9.out⟩
