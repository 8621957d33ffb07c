/- The law's product of matrices. Arguments opened: a slice -/
import Derived.ProofKit
import Derived.Deep.Slices
import Derived.Deep.Fields
import Derived.ChangeSame
import Derived.Test.YtigdclhagmnopaaGreatProg
import Derived.Test.YtigdclhagmnopaaGreatZq43
set_option linter.unusedSimpArgs false
set_option linter.unusedVariables false
namespace Go.Proofs.YtigdclhagmnopaaGreat
open Go.RowKit
attribute [local go_sem] Zh
open Go.ChangeShapes Go.WideShapes Go.Deep Go.RowKit
section
variable {H:Type} {enc:TypeId × Value->H} {P:Program} {w:World} {base:Nat} {spare:Nat->Bool} {held:Bool}
end
section
variable {H:Type} {enc:TypeId × Value->H} {P:Program}
theorem Zmr {f:Func} {s:ChangeSpec} {apart fresh handsOn again:Bool} {W W':World} {args:Array Value} {v:Value} {ds gs:List (DataW H)} {before pa pv:List MemPlace}
    (hW:DataW.Whole enc P f.params.toList s.vars apart W args.toList ds gs before)
    (hres:∀ (b:Nat) (sp:Nat->Bool) (hd:Bool),DataW.TrodAll enc P W' b sp hd f.resultTypes.toList (v.resultList f.resultTypes.size) (s.fn H (ds ++ gs)).results [])
    (hargs:∀ sp:Nat->Bool,(∀ p ∈ before,sp p.block=true)->DataW.TrodAll enc P W' 0 sp true f.params.toList args.toList (s.fn H (ds ++ gs)).args pa)
    (hvars:∀ sp:Nat->Bool,(∀ p ∈ before,sp p.block=true)->DataW.TrodVars enc P W' sp s.vars (s.fn H (ds ++ gs)).vars pv)
    (hps:before=pa ++ pv) (hb:Below W.heap.size W W')
    (hok:∀ (j:Nat) (t:TypeId) (r:Value),f.resultTypes[j]?=some t->(v.resultList f.resultTypes.size)[j]?=some r->Value.okWide P W' .any 0 t r) :
    s.post enc P f apart fresh handsOn again W args v W':=by
 have hlt:∀ p ∈ before,p.block < W.heap.size:=fun p hp=>hW.lt p hp
 have hold:∀ p ∈ before,(fun b=>decide (b < W.heap.size)) p.block=true:=fun p hp=>by simpa using hlt p hp
 refine ⟨ds,gs,before,[],pa,pv,hW,hres _ _ _,hargs _ hold,hvars _ hold,World.keptBut_mono (fun p hp=>⟨hp,?_⟩) (hb.frame (· ∈ before)),fun _=>?_⟩
 ·rw [hps,List.mem_append] at hp
  exact Or.inr hp
 ·obtain ⟨_,_,_,_,_,hz,hn⟩:=hW
  refine ⟨hok,_,_,([] ++ pa) ++ pv,⟨[] ++ pa,pv,trodAll_append (hargs _ (fun _ _=>rfl)) (hres _ _ _),hvars _ (fun _ _=>rfl),rfl,?_,?_⟩,?_⟩
  ·intro b off hp
   have hin:MemPlace.cell b off ∈ before:=by rw [hps];simpa using hp
   rw [hb.frozen (hlt _ hin)];exact hz b off hin
  ·intro ha
   have:=hn ha;rw [hps] at this
   simpa using this
  ·intro p hp _
   rw [hps]
   simpa using hp
end
theorem Zoq {α:Type} (P:Nat->α->Prop) (n:Nat) (h:∀ i,i < n->∃ e,P i e):∃ es:List α,es.length=n/\∀ (k:Nat) (e:α),es[k]?=some e->P k e:=by
 induction n with
 | zero=>exact ⟨[],rfl,fun k e h=>by simp at h⟩
 | succ n ih =>
  obtain ⟨es,h1,h2⟩:=ih fun i hi=>h i (by omega)
  obtain ⟨e,he⟩:=h n (by omega);refine ⟨es ++ [e],by simp [h1],fun k e' hk=>?_⟩
  rcases Nat.lt_or_ge k es.length with hlt | hge
  ·rw [List.getElem?_append_left hlt] at hk;exact h2 k e' hk
  ·rw [List.getElem?_append_right hge] at hk
   rcases Nat.eq_or_lt_of_le hge with h0 | h0
   ·rw [show k - es.length=0 by omega] at hk
    simp at hk
    subst hk;rw [<- h0,h1];exact he
   ·rw [List.getElem?_eq_none (by simp;omega)] at hk
    cases hk
theorem Zio {w:World} {a:Addr} {v:Value} (h:w.cell? a=some v):a=⟨a.block,a.off,none⟩:=by
 obtain ⟨b,o,s⟩:=a
 cases s with
 | none=>rfl
 | some s =>
  exfalso
  unfold World.cell? at h
  simp at h
  split at h <;> simp at h
section
variable {H:Type} {enc:TypeId × Value->H} {w:World} {base:Nat} {spare:Nat->Bool} {held:Bool}
end
section
variable {H:Type} {enc:TypeId × Value->H} {w:World} {base:Nat} {spare:Nat->Bool} {held:Bool}
end
section
variable {H:Type} {enc:TypeId × Value->H} {w:World} {base:Nat} {spare:Nat->Bool} {held:Bool}
end
theorem Fr.raw {w:World} {na:Bool} {A:Option Addr} {n c:Nat} {nb:Bool} {B:Option Addr} {m d:Nat} {r:Rat} (h:Fr w na A n c nb B m d r):okF na (digits r.num.natAbs) nb (digits r.den)=true/\qOf na (digits r.num.natAbs) (digits r.den)=r:=by
 have h1:=h.1.ok;have h2:=h.2.ok;have h3:=h.1.sgEq;rw [Int.natAbs_natCast] at h2;have hd:=r.den_pos;have hr:=r.reduced;unfold Nat.Coprime at hr;refine ⟨?_,?_⟩
 ·unfold okF
  rw [h1,h2,h.neg,Zi,Zi]
  simp [length_digits_pos,hd,hr]
 ·unfold qOf
  rw [h3,Zi];exact Rat.num_divInt_den r
def FE.fx (e:FE):FX:=⟨e.na,e.A,e.n,e.c,digits e.q.num.natAbs,e.nb,e.B,e.m,e.d,digits e.q.den⟩
def Sm8 (q:Rat):Prop:=q.num.natAbs < pw 8/\q.den < pw 8
theorem FE.fx_ok {w:World} {e:FE} (h:e.in_ w) (hs:Sm8 e.q):e.fx.in_ w/\e.fx.fine=true/\e.fx.q=e.q:=by
 have h0:Fr w e.na e.A e.n e.c e.nb e.B e.m e.d e.q:=h;have h1:=h0.1.2.2;have h2:=h0.2.2.2;rw [Int.natAbs_natCast] at h2;refine ⟨⟨h1,h2⟩,?_,h0.raw.2⟩;unfold FX.fine;rw [Bool.and_eq_true];refine ⟨decide_eq_true ?_,h0.raw.1⟩;have a1:=(Zs _ 8).2 hs.1;have a2:=(Zs _ 8).2 hs.2;have b1:=h1.len;have b2:=h2.len;unfold FX.few FE.fx;simp only;omega
theorem FL.fxl {w:World} {A:Option Addr} {n c:Nat} {qs:List Rat} (h:FL w A n c qs) (hs:∀ q ∈ qs,Sm8 q):∃ es,FXL w A n c es/\es.map FX.q=qs/\Zcn es=true:=by
 obtain ⟨fs,h1,h2,h3,h4,rfl,h5⟩:=h
 have hk:∀ e ∈ fs,e.fx.in_ w/\e.fx.fine=true/\e.fx.q=e.q:=fun e he=>FE.fx_ok (h4 e he) (hs _ (List.mem_map_of_mem he))
 refine ⟨fs.map FE.fx,⟨by rw [List.length_map];exact h1,h2,h3,fun x hx=>?_,fun hn=>?_⟩,?_,?_⟩
 ·obtain ⟨e,he,rfl⟩:=List.mem_map.1 hx
  exact (hk e he).1
 ·obtain ⟨g,o,e1,hc⟩:=h5 hn
  refine ⟨g,o,e1,fun k x hx=>?_⟩;rw [List.getElem?_map] at hx;obtain ⟨e,he,rfl⟩:=Option.map_eq_some_iff.1 hx;exact hc k e he
 ·rw [List.map_map]
  exact List.map_congr_left fun e he=>(hk e he).2.2
 ·unfold Zcn
  rw [List.all_eq_true];intro x hx;obtain ⟨e,he,rfl⟩:=List.mem_map.1 hx;exact (hk e he).2.1
theorem MFL.mxl {w:World} {A:Option Addr} {n c:Nat} {Q:List (List Rat)} (h:MFL w A n c Q) (hs:∀ r ∈ Q,∀ q ∈ r,Sm8 q):∃ rs,MXL w A n c rs/\qM rs=Q/\∀ (i:Nat) (r:RX),rs[i]?=some r->r.n=(Q[i]?.getD []).length/\Zcn r.es=true:=by
 obtain ⟨h1,h2,h3,h4⟩:=h
 rcases Nat.eq_zero_or_pos n with h0 | h0
 ·subst h0
  obtain rfl:Q=[]:=List.eq_nil_of_length_eq_zero h1;exact ⟨[],⟨rfl,h2,h3,fun r hr=>(by cases hr),fun hn=>absurd hn (Nat.lt_irrefl _)⟩,rfl,fun i r hr=>(by simp at hr)⟩
 ·obtain ⟨g,o,rfl,hc⟩:=h4 h0
  obtain ⟨rs,r1,r2⟩:=Zoq (fun i (r:RX)=>w.cell? ⟨g,o+i,none⟩=some (.slice r.A r.n r.c)/\FXL w r.A r.n r.c r.es/\r.es.map FX.q=Q[i]?.getD []/\Zcn r.es=true/\r.n=(Q[i]?.getD []).length) n (fun i hi=>by
   have hq:Q[i]?=some Q[i]:=List.getElem?_eq_getElem (by omega);obtain ⟨A',n',c',k0,hF⟩:=hc i _ hq;obtain ⟨es,e1,e2,e3⟩:=hF.fxl (hs _ (List.getElem_mem _))
   exact ⟨⟨A',n',c',es⟩,k0,e1,by rw [hq];exact e2,e3,by rw [hq];exact hF.len.symm⟩)
  refine ⟨rs,⟨r1,h2,h3,fun r hr=>?_,fun _=>⟨g,o,rfl,fun k r hk=>(r2 k r hk).1⟩⟩,?_,fun i r hr=>⟨(r2 i r hr).2.2.2.2,(r2 i r hr).2.2.2.1⟩⟩
  ·obtain ⟨k,hk,rfl⟩:=List.getElem_of_mem hr
   exact (r2 k _ (List.getElem?_eq_getElem hk)).2.1
  ·unfold qM
   apply List.ext_getElem?
   intro i;rw [List.getElem?_map]
   by_cases hi:i < n
   ·have hr:=List.getElem?_eq_getElem (l:=rs) (i:=i) (by omega)
    have hq:Q[i]?=some Q[i]:=List.getElem?_eq_getElem (by omega);have:=(r2 i _ hr).2.2.1;rw [hq] at this;rw [hr,hq,Option.map_some];exact congrArg some this
   ·rw [List.getElem?_eq_none (by omega),List.getElem?_eq_none (l:=Q) (by omega)];rfl
theorem Zpq {w:World} {A:Option Addr} {n c m:Nat} {rs:List RX} (h:MXL w A n c rs) (hn:0 < n) (hn12:n <= 12) (hm:0 < m) (hm12:m <= 12) (hr:∀ r ∈ rs,r.n=m/\Zcn r.es=true):Zfa rs=0/\n0R rs=m:=by
 obtain ⟨r0,hr0⟩:∃ r,rs[0]?=some r:=⟨_,List.getElem?_eq_getElem (by rw [h.1];exact hn)⟩
 have h0:n0R rs=m:=by
  unfold n0R;rw [hr0];exact (hr r0 (List.mem_of_getElem? hr0)).1
 refine ⟨?_,h0⟩;unfold Zfa
 have h1:Zha rs=false:=by
  unfold Zha;rw [Bool.or_eq_false_iff];refine ⟨decide_eq_false (by have:=h.1;omega),List.any_eq_false.2 fun r hr'=>?_⟩;have:=(hr r hr').1
  simp [RX.long,this]
  omega
 rw [if_neg (by simp [h1]),if_neg (by omega),if_pos ?_];rw [List.all_eq_true];intro r hr';obtain ⟨a1,a2⟩:=hr r hr';unfold Zgp
 simp [a1,a2,h0]
theorem Fr.few {w:World} {na:Bool} {A:Option Addr} {n c:Nat} {nb:Bool} {B:Option Addr} {m d:Nat} {r:Rat} (h:Fr w na A n c nb B m d r) {k:Nat} (h1:r.num.natAbs < pw k) (h2:r.den < pw k):max n m <= k:=by
 have a1:=(Zs _ k).2 h1;have a2:=(Zs _ k).2 h2;have b1:=h.1.2.2.len;have b2:=h.2.2.2.len;rw [Int.natAbs_natCast] at b2;omega
section
variable {t tS:TypeId} {w w':World} {base:Nat} {v:Value} {xs:List FX}
end
section
variable {P:Program} (w:World)
end
theorem df_fr {w:World} {q:Rat} {A:Option Addr} {n c:Nat} {B:Option Addr} {m d:Nat} (h1:Lim w A n c (dfQ q).la) (h2:Lim w B m d (dfQ q).lb) (hs:q.num.natAbs < pw 4096/\q.den < pw 4096):Fr w (dfQ q).na A n c (dfQ q).nb B m d q:=by
 have a1:=(Zs _ 4096).2 hs.1;have a2:=(Zs _ 4096).2 hs.2;have l1:=h1.len;have l2:=h2.len;have e1:(dfQ q).la=digits q.num.natAbs:=rfl;have e2:(dfQ q).lb=digits q.den:=rfl;rw [e1] at h1 l1;rw [e2] at h2 l2;refine ⟨⟨rfl,by omega,h1⟩,⟨?_,by omega,by rw [Int.natAbs_natCast];exact h2⟩⟩;show false=decide _
 symm
 exact decide_eq_false (by omega)
theorem XL.fl {w:World} {A:Option Addr} {n c:Nat} {qs:List Rat} (h:XL w A n c (qs.map dfQ)) (hs:∀ q ∈ qs,q.num.natAbs < pw 4096/\q.den < pw 4096):FL w A n c qs:=by
 obtain ⟨h1,h2,h3,h4⟩:=h;rw [List.length_map] at h1
 rcases Nat.eq_zero_or_pos n with h0 | h0
 ·subst h0
  obtain rfl:qs=[]:=List.eq_nil_of_length_eq_zero h1;exact ⟨[],rfl,h2,h3,fun e he=>(by cases he),rfl,fun hn=>absurd hn (Nat.lt_irrefl _)⟩
 ·obtain ⟨g,o,A0,n0,c0,B0,m0,d0,rfl,-⟩:=h4 0 _ (List.getElem?_eq_getElem (by rw [List.length_map];omega))
  obtain ⟨fs,f1,f2⟩:=Zoq (fun k (e:FE)=>At4 w g (o+k * 4) e.na e.A e.n e.c e.nb e.B e.m e.d/\Fr w e.na e.A e.n e.c e.nb e.B e.m e.d e.q/\qs[k]?=some e.q) n (fun k hk=>by
   have hq:=List.getElem?_eq_getElem (l:=qs) (i:=k) (by omega);obtain ⟨g',o',A1,n1,c1,B1,m1,d1,e1,h5,h6,h7⟩:=h4 k (dfQ qs[k]) (by rw [List.getElem?_map,hq];rfl)
   cases e1
   exact ⟨⟨_,A1,n1,c1,_,B1,m1,d1,qs[k]⟩,h5,df_fr h6 h7 (hs _ (List.getElem_mem _)),hq⟩)
  refine ⟨fs,f1,h2,h3,fun e he=>?_,?_,fun _=>⟨g,o,rfl,fun k e he=>(f2 k e he).1⟩⟩
  ·obtain ⟨k,hk,rfl⟩:=List.getElem_of_mem he
   exact (f2 k _ (List.getElem?_eq_getElem hk)).2.1
  ·apply List.ext_getElem?
   intro k;rw [List.getElem?_map]
   by_cases hk:k < n
   ·have hf:=List.getElem?_eq_getElem (l:=fs) (i:=k) (by omega)
    rw [hf,(f2 k _ hf).2.2];rfl
   ·rw [List.getElem?_eq_none (l:=fs) (by omega),List.getElem?_eq_none (l:=qs) (by omega)];rfl
end Go.Proofs.YtigdclhagmnopaaGreat
