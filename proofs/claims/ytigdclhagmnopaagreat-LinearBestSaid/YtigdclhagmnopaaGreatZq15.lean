/- Rows and matrices of fractions in memory: as they come in, -/
import Derived.Test.YtigdclhagmnopaaGreatZq14
set_option maxRecDepth 100000
set_option maxHeartbeats 1000000
set_option linter.unusedSimpArgs false
set_option linter.unusedVariables false
namespace Go.Proofs.YtigdclhagmnopaaGreat
open Go.RowKit
structure FX where
 na:Bool
 A:Option Addr
 n:Nat
 c:Nat
 la:List Nat
 nb:Bool
 B:Option Addr
 m:Nat
 d:Nat
 lb:List Nat
def FX.in_ (w:World) (e:FX):Prop:=Lim w e.A e.n e.c e.la/\Lim w e.B e.m e.d e.lb
def FX.ok (e:FX):Bool:=okF e.na e.la e.nb e.lb
def FX.q (e:FX):Rat:=qOf e.na e.la e.lb
def FX.few (e:FX):Nat:=max e.n e.m
def At4 (w:World) (g o:Nat) (na:Bool) (A:Option Addr) (n c:Nat) (nb:Bool) (B:Option Addr) (m d:Nat):Prop:=
 w.cell? ⟨g,o,none⟩=some (.bool na)/\w.cell? ⟨g,o+1,none⟩=some (.slice A n c)/\w.cell? ⟨g,o+2,none⟩=some (.bool nb)/\w.cell? ⟨g,o+3,none⟩=some (.slice B m d)
theorem At4.below {w w':World} {g o:Nat} {na:Bool} {A:Option Addr} {n c:Nat} {nb:Bool} {B:Option Addr} {m d:Nat} (h:At4 w g o na A n c nb B m d) (hb:Below w.heap.size w w'):At4 w' g o na A n c nb B m d:=
 ⟨Zb hb h.1,Zb hb h.2.1,Zb hb h.2.2.1,Zb hb h.2.2.2⟩
def FXL (w:World) (A:Option Addr) (n c:Nat) (es:List FX):Prop:=
 es.length=n/\n <= c/\c <= maxLen/\(∀ e ∈ es,e.in_ w)/\(0 < n->∃ g o,A=some ⟨g,o,none⟩/\∀ (k:Nat) (e:FX),es[k]?=some e->At4 w g (o+k * 4) e.na e.A e.n e.c e.nb e.B e.m e.d)
section
variable {w w':World} {A:Option Addr} {n c:Nat} {es:List FX}
theorem FX.in_below {e:FX} (h:e.in_ w) (hb:Below w.heap.size w w'):e.in_ w':=⟨h.1.below hb,h.2.below hb⟩
theorem FXL.below (h:FXL w A n c es) (hb:Below w.heap.size w w'):FXL w' A n c es:=by
 obtain ⟨h1,h2,h3,h4,h5⟩:=h;refine ⟨h1,h2,h3,fun e he=>FX.in_below (h4 e he) hb,fun hn=>?_⟩;obtain ⟨g,o,e1,hc⟩:=h5 hn;exact ⟨g,o,e1,fun k e he=>(hc k e he).below hb⟩
theorem FXL.at_ (h:FXL w A n c es) {k:Nat} (hk:k < n):∃ g o e,A=some ⟨g,o,none⟩/\es[k]?=some e/\At4 w g (o+k * 4) e.na e.A e.n e.c e.nb e.B e.m e.d/\Lim w e.A e.n e.c e.la/\Lim w e.B e.m e.d e.lb:=by
 obtain ⟨h1,-,-,h4,h5⟩:=h;obtain ⟨g,o,e1,hc⟩:=h5 (by omega);have he:=List.getElem?_eq_getElem (l:=es) (i:=k) (by omega);have hi:=h4 es[k] (List.getElem_mem _);exact ⟨g,o,es[k],e1,he,hc k _ he,hi.1,hi.2⟩
theorem FXL.fl (h:FXL w A n c es) (hk:∀ e ∈ es,e.ok=true):FL w A n c (es.map FX.q):=by
 obtain ⟨h1,h2,h3,h4,h5⟩:=h;refine ⟨es.map fun e=>⟨e.na,e.A,e.n,e.c,e.nb,e.B,e.m,e.d,e.q⟩,by simp [h1],h2,h3,fun e he=>?_,by rw [List.map_map];rfl,fun hn=>?_⟩
 ·obtain ⟨x,hx,rfl⟩:=List.mem_map.1 he
  exact Zwz (h4 x hx).1 (h4 x hx).2 (hk x hx)
 ·obtain ⟨g,o,e1,hc⟩:=h5 hn
  refine ⟨g,o,e1,fun k e he=>?_⟩;rw [List.getElem?_map] at he;obtain ⟨x,hx,rfl⟩:=Option.map_eq_some_iff.1 he;exact hc k x hx
end
structure RX where
 A:Option Addr
 n:Nat
 c:Nat
 es:List FX
def MXL (w:World) (A:Option Addr) (n c:Nat) (rs:List RX):Prop:=
 rs.length=n/\n <= c/\c <= maxLen/\(∀ r ∈ rs,FXL w r.A r.n r.c r.es)/\(0 < n->∃ g o,A=some ⟨g,o,none⟩/\∀ (k:Nat) (r:RX),rs[k]?=some r->w.cell? ⟨g,o+k,none⟩=some (.slice r.A r.n r.c))
def MFL (w:World) (A:Option Addr) (n c:Nat) (Q:List (List Rat)):Prop:=
 Q.length=n/\n <= c/\c <= maxLen/\(0 < n->∃ g o,A=some ⟨g,o,none⟩/\∀ (k:Nat) (q:List Rat),Q[k]?=some q->∃ A' n' c',w.cell? ⟨g,o+k,none⟩=some (.slice A' n' c')/\FL w A' n' c' q)
section
variable {w w':World} {A:Option Addr} {n c:Nat} {rs:List RX} {Q:List (List Rat)} {qs:List Rat}
theorem MXL.below (h:MXL w A n c rs) (hb:Below w.heap.size w w'):MXL w' A n c rs:=by
 obtain ⟨h1,h2,h3,h4,h5⟩:=h;refine ⟨h1,h2,h3,fun r hr=>(h4 r hr).below hb,fun hn=>?_⟩;obtain ⟨g,o,e1,hc⟩:=h5 hn;exact ⟨g,o,e1,fun k r hr=>Zb hb (hc k r hr)⟩
theorem MXL.at_ (h:MXL w A n c rs) {k:Nat} (hk:k < n):∃ g o r,A=some ⟨g,o,none⟩/\rs[k]?=some r/\w.cell? ⟨g,o+k,none⟩=some (.slice r.A r.n r.c)/\FXL w r.A r.n r.c r.es:=by
 obtain ⟨h1,-,-,h4,h5⟩:=h;obtain ⟨g,o,e1,hc⟩:=h5 (by omega);have he:=List.getElem?_eq_getElem (l:=rs) (i:=k) (by omega);exact ⟨g,o,rs[k],e1,he,hc k _ he,h4 rs[k] (List.getElem_mem _)⟩
theorem MXL.mfl (h:MXL w A n c rs) (hk:∀ r ∈ rs,∀ e ∈ r.es,e.ok=true):MFL w A n c (rs.map fun r=>r.es.map FX.q):=by
 obtain ⟨h1,h2,h3,h4,h5⟩:=h;refine ⟨by simp [h1],h2,h3,fun hn=>?_⟩;obtain ⟨g,o,e1,hc⟩:=h5 hn;refine ⟨g,o,e1,fun k q hq=>?_⟩;rw [List.getElem?_map] at hq;obtain ⟨r,hr,rfl⟩:=Option.map_eq_some_iff.1 hq;exact ⟨r.A,r.n,r.c,hc k r hr,(h4 r (List.mem_of_getElem? hr)).fl (hk r (List.mem_of_getElem? hr))⟩
theorem MFL.below (h:MFL w A n c Q) (hb:Below w.heap.size w w'):MFL w' A n c Q:=by
 obtain ⟨h1,h2,h3,h5⟩:=h;refine ⟨h1,h2,h3,fun hn=>?_⟩;obtain ⟨g,o,e1,hc⟩:=h5 hn;refine ⟨g,o,e1,fun k q hq=>?_⟩;obtain ⟨A',n',c',h6,h7⟩:=hc k q hq;exact ⟨A',n',c',Zb hb h6,h7.below hb⟩
theorem MFL.at_ (h:MFL w A n c Q) {k:Nat} (hk:k < n):∃ g o A' n' c',A=some ⟨g,o,none⟩/\w.cell? ⟨g,o+k,none⟩=some (.slice A' n' c')/\FL w A' n' c' (Q[k]?.getD []):=by
 obtain ⟨h1,-,-,h5⟩:=h;obtain ⟨g,o,e1,hc⟩:=h5 (by omega);have he:=List.getElem?_eq_getElem (l:=Q) (i:=k) (by omega);obtain ⟨A',n',c',h6,h7⟩:=hc k _ he;rw [he];exact ⟨g,o,A',n',c',e1,h6,h7⟩
theorem FL.len (h:FL w A n c qs):qs.length=n:=by obtain ⟨es,h1,-,-,-,h5,-⟩:=h;rw [<- h5,List.length_map,h1]
theorem FL.cap (h:FL w A n c qs):n <= c/\c <= maxLen:=by obtain ⟨es,h1,h2,h3,-⟩:=h;exact ⟨h2,h3⟩
theorem FL.at_ (h:FL w A n c qs) {k:Nat} (hk:k < n):∃ g o na A1 n1 c1 nb B m d,A=some ⟨g,o,none⟩/\At4 w g (o+k * 4) na A1 n1 c1 nb B m d/\Fr w na A1 n1 c1 nb B m d (qs[k]?.getD 0):=by
 obtain ⟨es,h1,-,-,h4,rfl,h5⟩:=h;obtain ⟨g,o,e1,hc⟩:=h5 (by omega);have he:=List.getElem?_eq_getElem (l:=es) (i:=k) (by omega);refine ⟨g,o,es[k].na,es[k].A,es[k].n,es[k].c,es[k].nb,es[k].B,es[k].m,es[k].d,e1,hc k _ he,?_⟩;rw [List.getElem?_map,he];exact h4 es[k] (List.getElem_mem _)
theorem FL.take (h:FL w A n c qs) {k:Nat} (hk:k <= n):FL w A k c (qs.take k):=by
 obtain ⟨es,h1,h2,h3,h4,rfl,h5⟩:=h;refine ⟨es.take k,by rw [List.length_take];omega,by omega,h3,fun e he=>h4 e (List.mem_of_mem_take he),by rw [List.map_take],fun hn=>?_⟩;obtain ⟨g,o,e1,hc⟩:=h5 (by omega);refine ⟨g,o,e1,fun j e he=>?_⟩;rw [List.getElem?_take] at he
 split at he
 ·exact hc j e he
 ·cases he
end
attribute [local go_sem] Zh
theorem Znv {x y:Int} {na nb:Bool} (ha:na=decide (x < 0)) (hb:nb=decide (y < 0)):Zg7 na nb (digits x.natAbs) (digits y.natAbs)=decide (x=y):=by
 unfold Zg7;rw [Zde,ha,hb]
 by_cases h:x=y
 ·subst h;simp [Zeh]
 ·rw [decide_eq_false h]
  unfold Zeh
  by_cases h1:(decide (x < 0) == decide (y < 0))=true
  ·have:x.natAbs ≠ y.natAbs:=by
     intro e;rw [beq_iff_eq,decide_eq_decide] at h1;omega
   rcases Nat.lt_or_gt_of_ne this with h2 | h2
   ·rw [if_pos (by omega)];simp
   ·rw [if_neg (by omega),if_pos (by omega)];simp
  ·rw [Bool.not_eq_true] at h1;rw [h1];rfl
def Fz (w:World) (na:Bool) (A:Option Addr) (n c:Nat) (nb:Bool) (B:Option Addr) (m d:Nat) (q:Int × Int):Prop:=Wd w na A n c q.1/\Wd w nb B m d q.2
theorem Fz.below {w w':World} {na:Bool} {A:Option Addr} {n c:Nat} {nb:Bool} {B:Option Addr} {m d:Nat} {r:Int × Int} (h:Fz w na A n c nb B m d r) (hb:Below w.heap.size w w'):Fz w' na A n c nb B m d r:=⟨h.1.below hb,h.2.below hb⟩
def prQ (r:Rat):Int × Int:=(r.num,(r.den:Nat))
theorem Fr.fz {w:World} {na:Bool} {A:Option Addr} {n c:Nat} {nb:Bool} {B:Option Addr} {m d:Nat} {r:Rat} (h:Fr w na A n c nb B m d r):Fz w na A n c nb B m d (prQ r):=h
theorem Zvc (na nb na' nb':Bool) (A B A' B':Option Addr) (n c m d n' c' m' d':Nat) (a b:Int × Int) (w:World) (ha:Fz w na A n c nb B m d a) (hb:Fz w na' A' n' c' nb' B' m' d' b) (s:Bool) (hs:decide (a=b)=s) :
    Calls Tryz.prog 22 #[.agg #[.bool na,.slice A n c,.bool nb,.slice B m d],.agg #[.bool na',.slice A' n' c',.bool nb',.slice B' m' d']] w fun e w'=>e=.returned (.bool s)/\Below w.heap.size w w':=by
 obtain ⟨W0,hW0,hB0,⟨q0,q1⟩,s0⟩:=Zf5 w 45 #[.bool na,.slice A n c,.bool nb,.slice B m d] 45 #[.bool na',.slice A' n' c',.bool nb',.slice B' m' d'];have hA:=Za (ha.below hB0);have hD:=Za (hb.below hB0);have e1:=Za (Znv ha.1.1 hb.1.1);have e2:=Za (Znv ha.2.1 hb.2.1);clear ha hb;obtain ⟨x,hx⟩:∃ x,decide (a.1=b.1)=x:=⟨_,rfl⟩;obtain ⟨y,hy⟩:∃ y,decide (a.2=b.2)=y:=⟨_,rfl⟩
 have hsx:s=(x && y):=by
  rw [<- hs,<- hx,<- hy,Bool.eq_iff_iff];simp only [decide_eq_true_eq,Bool.and_eq_true]
  constructor
  ·rintro rfl;exact ⟨rfl,rfl⟩
  ·rintro ⟨h1,h2⟩;exact Prod.ext h1 h2
 subst hsx;rw [hx] at e1;rw [hy] at e2;clear hs hx hy;obtain ⟨a0,a1,a2,a3,-⟩:=q0.four;obtain ⟨b0,b1,b2,b3,-⟩:=q1.four;have hq:=Za (And.intro q0 q1);clear q0 q1;go_enter Tryz.func22,Tryz.ntmps22;go_wp2_with fail;refine (Zfq na na' A A' n c n' c' _ _ W0 hA.out.1.lim hD.out.1.lim).mono ?_;rw [e1.out];rintro e w1 ⟨rfl,hb1⟩;have hB1:Below w.heap.size w w1:=hB0.trans (hb1.mono hB0.size);replace hA:=Za (hA.out.below hb1);replace hD:=Za (hD.out.below hb1);obtain ⟨q0,q1⟩:=hq.out;replace q0:=Zc hb1 q0;replace q1:=Zc hb1 q1;clear hW0 hb1 a0 a1 a2 a3 b0 b1 b2 b3 hq hB0;obtain ⟨a0,a1,a2,a3,-⟩:=q0.four;obtain ⟨b0,b1,b2,b3,-⟩:=q1.four;clear q0 q1
 cases x
 ·go_wp2_with fail
  go_ret;exact ⟨rfl,hB1⟩
 ·go_wp2_with fail
  refine (Zfq nb nb' B B' m d m' d' _ _ w1 hA.out.2.lim hD.out.2.lim).mono ?_;rw [e2.out];rintro e w2 ⟨rfl,hb2⟩;have hB2:Below w.heap.size w w2:=hB1.trans (hb2.mono hB1.size);go_wp2_with fail;go_ret;exact ⟨by simp,hB2⟩
theorem prQ_inj {a b:Rat}:prQ a=prQ b ↔ a=b:=by
 constructor
 ·intro h
  have h1:=congrArg Prod.fst h;have h2:=congrArg Prod.snd h;simp only [prQ] at h1 h2;exact Rat.ext h1 (by omega)
 ·rintro rfl;rfl
theorem Zsb (na nb na' nb':Bool) (A B A' B':Option Addr) (n c m d n' c' m' d':Nat) (a b:Rat) (w:World) (ha:Fr w na A n c nb B m d a) (hb:Fr w na' A' n' c' nb' B' m' d' b) (s:Bool) (hs:decide (a=b)=s) :
    Calls Tryz.prog 22 #[.agg #[.bool na,.slice A n c,.bool nb,.slice B m d],.agg #[.bool na',.slice A' n' c',.bool nb',.slice B' m' d']] w fun e w'=>e=.returned (.bool s)/\Below w.heap.size w w':=
 Zvc na nb na' nb' A B A' B' n c m d n' c' m' d' (prQ a) (prQ b) w ha.fz hb.fz s (by rw [<- hs];exact decide_eq_decide.2 prQ_inj)
def Zh0 (a b:Rat):Int:=if a < b then -1 else if b < a then 1 else 0
theorem Zqa (a b:Rat):Zeh (a.num * b.den) (b.num * a.den)=Zh0 a b:=by
 unfold Zeh Zh0;simp only [Rat.lt_iff]
theorem Zpp (na nb na' nb':Bool) (A B A' B':Option Addr) (n c m d n' c' m' d':Nat) (a b:Rat) (w:World) (ha:Fr w na A n c nb B m d a) (hb:Fr w na' A' n' c' nb' B' m' d' b) (sa:Sm a) (sb:Sm b) :
    Calls Tryz.prog 46 #[.agg #[.bool na,.slice A n c,.bool nb,.slice B m d],.agg #[.bool na',.slice A' n' c',.bool nb',.slice B' m' d']] w fun e w'=>e=.returned (.tuple #[.int .i64 (Zh0 a b),.int .i64 0])/\Below w.heap.size w w':=by
 rw [<- Zqa];have h1:=Za (Zbg sa.1 sb.dn);have h2:=Za (Zbg sb.1 sa.dn);obtain ⟨W0,hW0,hB0,⟨q0,q1⟩,s0⟩:=Zf5 w 45 #[.bool na,.slice A n c,.bool nb,.slice B m d] 45 #[.bool na',.slice A' n' c',.bool nb',.slice B' m' d'];have hA:=Za (ha.below hB0);have hD:=Za (hb.below hB0);clear ha hb sa sb
 generalize hX:a.num * ((b.den:Nat):Int)=X at *
 generalize hY:b.num * ((a.den:Nat):Int)=Y at *
 replace hX:=Za hX;replace hY:=Za hY;obtain ⟨a0,a1,a2,a3,-⟩:=q0.four;obtain ⟨b0,b1,b2,b3,-⟩:=q1.four;have hq:=Za (And.intro q0 q1);clear q0 q1;go_enter Tryz.func46,Tryz.ntmps46;go_wp2_with fail;refine (Ztp na nb na' nb' A B A' B' n c m d n' c' m' d' a b W0 hA.out hD.out).mono ?_;rintro e w1 ⟨rfl,hb1⟩;have hB1:Below w.heap.size w w1:=hB0.trans (hb1.mono hB0.size);replace hA:=Za (hA.out.below hb1);replace hD:=Za (hD.out.below hb1);obtain ⟨q0,q1⟩:=hq.out;replace q0:=Zc hb1 q0;replace q1:=Zc hb1 q1;clear hW0 hb1 a0 a1 a2 a3 b0 b1 b2 b3 hq hB0;obtain ⟨a0,a1,a2,a3,-⟩:=q0.four;obtain ⟨b0,b1,b2,b3,-⟩:=q1.four;have hq:=Za (And.intro q0 q1);clear q0 q1;go_wp2_with fail;have hM:=Zd5 na nb' A B' n c m' d' a.num b.den w1 hA.out.1 hD.out.2;rw [hX.out] at hM;refine hM.mono ?_;clear hM;rintro e w2 ⟨hb2,n1,P1,k1,c1,code,rfl,hR⟩;have hP1:=Za (hR.small h1.out);have hcode:=hR.code0 h1.out;subst hcode;have hC2:Below w.heap.size w w2:=hB1.trans (hb2.mono hB1.size);replace hA:=Za (hA.out.below hb2);replace hD:=Za (hD.out.below hb2);obtain ⟨q0,q1⟩:=hq.out;replace q0:=Zc hb2 q0;replace q1:=Zc hb2 q1;clear hb2 a0 a1 a2 a3 b0 b1 b2 b3 hq hB1 hR h1 hX;obtain ⟨W2,hW2,hB2,r1,kW,kB,t2⟩:=Zr 43 #[.bool n1,.slice P1 k1 c1] hC2 hC2.size;replace q0:=kB _ _ _ q0;replace q1:=kB _ _ _ q1;replace hA:=Za (hA.out.keep kW);replace hD:=Za (hD.out.keep kW);replace hP1:=Za (kW _ _ _ _ _ hP1.out);clear kW kB hC2;obtain ⟨a0,a1,a2,a3,-⟩:=q0.four;obtain ⟨b0,b1,b2,b3,-⟩:=q1.four;clear q0 q1;replace r1:=Za r1
 go_wp2_with fail;have hM:=Zd5 na' nb A' B n' c' m d b.num a.den W2 hD.out.1 hA.out.2;rw [hY.out] at hM;refine hM.mono ?_;clear hM;rintro e w3 ⟨hb3,n2,P2,k2,c2,code,rfl,hR⟩;have hP2:=Za (hR.small h2.out);have hcode:=hR.code0 h2.out;subst hcode;have hC3:Below w.heap.size w w3:=hB2.trans (hb3.mono hB2.size);replace r1:=Zc hb3 r1.out;replace hP1:=Za (hP1.out.below hb3);clear hb3 a0 a1 a2 a3 b0 b1 b2 b3 hB2 hR h2 hY hA hD hW2;obtain ⟨W3,hW3,hB3,r2,kW,kB,t3⟩:=Zr 43 #[.bool n2,.slice P2 k2 c2] hC3 hC3.size;replace r1:=kB _ _ _ r1;replace hP1:=Za (kW _ _ _ _ _ hP1.out);replace hP2:=Za (kW _ _ _ _ _ hP2.out);clear kW kB hC3;obtain ⟨x0,x1,-⟩:=r1.two;obtain ⟨y0,y1,-⟩:=r2.two;clear r1 r2;go_wp2_with fail;refine (Zoc n1 n2 P1 P2 k1 c1 k2 c2 X Y W3 hP1.out hP2.out).mono ?_;rintro e w4 ⟨rfl,hb4⟩;have hB4:Below w.heap.size w w4:=hB3.trans (hb4.mono hB3.size);go_wp2_with fail
 go_ret2
 exact ⟨rfl,hB4⟩
theorem Few_any (na nb:Bool) (A B:Option Addr) (n c m d:Nat) (w:World) (hn:n <= maxLen) (hm:m <= maxLen) :
    Calls Tryz.prog 36 #[.agg #[.bool na,.slice A n c,.bool nb,.slice B m d]] w fun e w'=>e=.returned (.int .i64 (max n m:Nat))/\Below w.heap.size w w':=by
 unfold maxLen at hn hm;obtain ⟨W0,hW0,hB0,q0,s0⟩:=Zbr w 45 #[.bool na,.slice A n c,.bool nb,.slice B m d];obtain ⟨a0,a1,a2,a3,-⟩:=q0.four
 have hx:max (n:Int) (m:Int)=((max n m:Nat):Int):=by omega
 go_enter Tryz.func36,Tryz.ntmps36;go_wp2_with fail;go_ret;exact ⟨rfl,(by first | exact hB0 | exact Zf hB0 _)⟩
def FX.fine (e:FX):Bool:=decide (e.few <= 8) && e.ok
def Zcn (es:List FX):Bool:=es.all FX.fine
def IdxB (w:World) (b:Bool) (e:Ending) (w':World):Prop:=∃ i:Int,e=.returned (.int .i64 i)/\decide (0 <= i)=b/\Below w.heap.size w w'
theorem Zwv (na nb:Bool) (A B:Option Addr) (n c m d:Nat) (la lb:List Nat) (w:World) (ha:Lim w A n c la) (hb:Lim w B m d lb) (b:Bool) (hx:(decide (max n m <= 8) && okF na la nb lb)=b) :
    Calls Tryz.prog 131 #[.agg #[.bool na,.slice A n c,.bool nb,.slice B m d]] w fun e w'=>e=.returned (.bool (!b))/\Below w.heap.size w w':=by
 obtain ⟨W0,hW0,hB0,q0,s0⟩:=Zbr w 45 #[.bool na,.slice A n c,.bool nb,.slice B m d];obtain ⟨a0,a1,a2,a3,-⟩:=q0.four;have ha0:=Nat.le_trans ha.2.1 ha.2.2.1;have hb0:=Nat.le_trans hb.2.1 hb.2.2.1;unfold maxLen at ha0 hb0;obtain ⟨y,hy⟩:∃ y,okF na la nb lb=y:=⟨_,rfl⟩;rw [hy] at hx;have hC:=Za (fun W1 (h1:Below w.heap.size w W1)=>Zq5 na nb A B n c m d la lb W1 (ha.below h1) (hb.below h1) y hy);clear ha hb hy
 have hmx:max (n:Int) (m:Int)=((max n m:Nat):Int):=by omega
 by_cases h8:max n m <= 8
 ·have t1:decide ((8:Int) < ((max n m:Nat):Int))=false:=decide_eq_false (by omega)
  have t1':decide (8 < max n m)=false:=decide_eq_false (by omega);have t1'':decide ((8:Int) < max (n:Int) (m:Int))=false:=decide_eq_false (by omega);rw [decide_eq_true h8,Bool.true_and] at hx;subst hx
  cases y
  ·go_enter Tryz.func131,Tryz.ntmps131
   go_wp2_with fail;refine (hC.out _ (by first | exact hB0 | exact Zf hB0 _)).mono ?_;rintro e w1 ⟨rfl,hb1⟩;simp only [Zjn,Bool.false_eq_true,if_false];go_wp2_with fail;go_ret;exact ⟨rfl,(by first | exact hB0.trans (hb1.mono hB0.size) | exact (Zf hB0 _).trans (hb1.mono hB0.size))⟩
  ·go_enter Tryz.func131,Tryz.ntmps131
   go_wp2_with fail;refine (hC.out _ (by first | exact hB0 | exact Zf hB0 _)).mono ?_;rintro e w1 ⟨rfl,hb1⟩;simp only [Zjn,if_true];go_wp2_with fail;go_ret;exact ⟨rfl,(by first | exact hB0.trans (hb1.mono hB0.size) | exact (Zf hB0 _).trans (hb1.mono hB0.size))⟩
 ·have t1:decide ((8:Int) < ((max n m:Nat):Int))=true:=decide_eq_true (by omega)
  have t1':decide (8 < max n m)=true:=decide_eq_true (by omega);have t1'':decide ((8:Int) < max (n:Int) (m:Int))=true:=decide_eq_true (by omega);rw [decide_eq_false h8,Bool.false_and] at hx;subst hx;go_enter Tryz.func131,Tryz.ntmps131;go_wp2_with fail;go_ret;exact ⟨rfl,(by first | exact hB0 | exact Zf hB0 _)⟩
theorem Zvz (A:Option Addr) (n c:Nat) (es:List FX) (w:World) (h:FXL w A n c es) (b:Bool) (hb:Zcn es=b) :
    Calls Tryz.prog 160 #[.slice A n c,.func (.func 131) #[] #[]] w (IdxB w (!b)):=by
 have hl:=h.1;have hnc:=h.2.1;have hcm:=h.2.2.1;unfold maxLen at hcm;replace hl:=Za hl;replace hb:=Za hb;replace h:=Za h;go_enter Tryz.func160,Tryz.ntmps160;go_wp2_with fail
 go_loopw [8] (fun iv wr=>∃ i:Nat,i <= n/\iv=.int .i64 i/\Hid (∀ j e,j < i->es[j]?=some e->e.fine=true)/\Below w.heap.size w wr) (fun iv _=>n - (intOf iv).toNat)
 case atStart=>exact ⟨0,Nat.zero_le _,rfl,Za (fun j e hj=>by omega),Below.refl _ _⟩
 case round =>
  obtain ⟨i,hik,rfl,hall,hBp⟩:=hrel
  by_cases hin:i < n
  case neg =>
   obtain rfl:n=i:=by omega
   have htk:decide ((n:Int) < (n:Int))=false:=by simp
   obtain rfl:b=true:=by
    rw [<- hb.out];unfold Zcn;rw [List.all_eq_true];intro e he;obtain ⟨j,hj,hje⟩:=List.getElem_of_mem he;exact hall.out j e (by rw [hl.out] at hj;exact hj) (by rw [List.getElem?_eq_getElem hj,hje])
   go_wp2_with fail;go_ret;exact ⟨-1,rfl,rfl,hBp⟩
  have htk:decide ((i:Int) < (n:Int))=true:=decide_eq_true (by omega);obtain ⟨g,o,e,rfl,he,hc,hLa,hLb⟩:=(h.out.below hBp).at_ hin;obtain ⟨c0,c1,c2,c3⟩:=hc;obtain ⟨x,hx⟩:∃ x,e.fine=x:=⟨_,rfl⟩;have hC:=Za (fun W1 (hb:Below wr.heap.size wr W1)=>Zwv e.na e.nb e.A e.B e.n e.c e.m e.d e.la e.lb W1 (hLa.below hb) (hLb.below hb) x hx);clear hLa hLb
  cases x
  ·obtain rfl:b=false:=by
     rw [<- hb.out];unfold Zcn;rw [List.all_eq_false];exact ⟨e,List.mem_of_getElem? he,by rw [hx];decide⟩
   replace he:=Za he;clear hx;go_wp2_with fail;refine (hC.out _ (by first | exact Below.refl _ _ | exact Zf (Below.refl _ _) _)).mono ?_;rintro e' w1 ⟨rfl,hb1⟩;go_wp2_with fail;go_ret;exact ⟨i,rfl,by simp,(by first | exact hBp.trans (hb1.mono hBp.size) | exact (Zf hBp _).trans (hb1.mono hBp.size))⟩
  ·have hall2:Hid (∀ j e,j < i+1->es[j]?=some e->e.fine=true):=Za (fun j e' hj he'=>by
     rcases Nat.lt_or_ge j i with h' | h'
     ·exact hall.out j e' h' he'
     ·obtain rfl:j=i:=by omega
      rw [he] at he'
      cases he'
      exact hx)
   replace he:=Za he;clear hx;go_wp2_with fail;refine (hC.out _ (by first | exact Below.refl _ _ | exact Zf (Below.refl _ _) _)).mono ?_;rintro e' w1 ⟨rfl,hb1⟩;go_wp2_with fail
   go_roundw
   case rel=>exact ⟨i+1,by omega,by go_num,hall2,(by first | exact hBp.trans (hb1.mono hBp.size) | exact (Zf hBp _).trans (hb1.mono hBp.size))⟩
   case measure=>simp [intOf];omega
theorem Zt4 (A:Option Addr) (n c:Nat) (es:List FX) (w:World) (h:FXL w A n c es) (b:Bool) (hb:Zcn es=b) :
    Calls Tryz.prog 132 #[.slice A n c,.func (.func 131) #[] #[]] w fun e w'=>e=.returned (.bool (!b))/\Below w.heap.size w w':=by
 go_enter Tryz.func132,Tryz.ntmps132;go_wp2_with fail;refine (Zvz A n c es w h b hb).mono ?_;rintro e w1 ⟨i,rfl,hi,hb1⟩;replace hi:=Za hi;go_wp2_with fail;go_ret;exact ⟨Zi1 hi.out,hb1⟩
theorem Zgv (A:Option Addr) (n c:Nat) (es:List FX) (w:World) (h:FXL w A n c es) (b:Bool) (hb:Zcn es=b) :
    Calls Tryz.prog 75 #[.slice A n c] w fun e w'=>e=.returned (.bool b)/\Below w.heap.size w w':=by
 go_enter Tryz.func75,Tryz.ntmps75;go_wp2_with fail;refine (Zt4 A n c es w h b hb).mono ?_;rintro e w1 ⟨rfl,hb1⟩;go_wp2_with fail;go_ret;exact ⟨by simp,hb1⟩
def RX.long (r:RX):Bool:=decide (12 < r.n)
theorem Ztm (A:Option Addr) (n c:Nat) (w:World) (hn:n <= maxLen) :
    Calls Tryz.prog 82 #[.slice A n c] w fun e w'=>e=.returned (.bool (decide (12 < n)))/\Below w.heap.size w w':=by
 unfold maxLen at hn;have hd:decide ((12:Int) < (n:Int))=decide (12 < n):=decide_eq_decide.2 (by omega);go_enter Tryz.func82,Tryz.ntmps82;go_wp2_with fail;go_ret;exact ⟨by first | rfl | simp [hd],by first | exact Below.refl _ _ | exact Zf (Below.refl _ _) _⟩
theorem FXL.nlen {w:World} {A:Option Addr} {n c:Nat} {es:List FX} (h:FXL w A n c es):n <= maxLen:=Nat.le_trans h.2.1 h.2.2.1
theorem Ztj (A:Option Addr) (n c:Nat) (rs:List RX) (w:World) (h:MXL w A n c rs) (b:Bool) (hb:rs.any RX.long=b) :
    Calls Tryz.prog 133 #[.slice A n c,.func (.func 82) #[] #[]] w (IdxB w b):=by
 have hl:=h.1;have hnc:=h.2.1;have hcm:=h.2.2.1;unfold maxLen at hcm;replace hl:=Za hl;replace hb:=Za hb;replace h:=Za h;go_enter Tryz.func133,Tryz.ntmps133;go_wp2_with fail
 go_loopw [8] (fun iv wr=>∃ i:Nat,i <= n/\iv=.int .i64 i/\Hid (∀ j e,j < i->rs[j]?=some e->e.long=false)/\Below w.heap.size w wr) (fun iv _=>n - (intOf iv).toNat)
 case atStart=>exact ⟨0,Nat.zero_le _,rfl,Za (fun j e hj=>by omega),Below.refl _ _⟩
 case round =>
  obtain ⟨i,hik,rfl,hall,hBp⟩:=hrel
  by_cases hin:i < n
  case neg =>
   obtain rfl:n=i:=by omega
   have htk:decide ((n:Int) < (n:Int))=false:=by simp
   obtain rfl:b=false:=by
    rw [<- hb.out,List.any_eq_false];intro e he;obtain ⟨j,hj,hje⟩:=List.getElem_of_mem he;have:=hall.out j e (by rw [hl.out] at hj;exact hj) (by rw [List.getElem?_eq_getElem hj,hje]);rw [this];decide
   go_wp2_with fail;go_ret;exact ⟨-1,rfl,rfl,hBp⟩
  have htk:decide ((i:Int) < (n:Int))=true:=decide_eq_true (by omega);obtain ⟨g,o,r,rfl,he,c0,hL⟩:=(h.out.below hBp).at_ hin;have hC:=Za (fun W1=>Ztm r.A r.n r.c W1 hL.nlen);clear hL
  by_cases hx:12 < r.n
  ·obtain rfl:b=true:=by
     rw [<- hb.out,List.any_eq_true];exact ⟨r,List.mem_of_getElem? he,by unfold RX.long;simpa using hx⟩
   rw [decide_eq_true hx] at hC;replace he:=Za he;go_wp2_with fail;refine (hC.out _).mono ?_;rintro e' w1 ⟨rfl,hb1⟩;go_wp2_with fail;go_ret;exact ⟨i,rfl,by simp,(by first | exact hBp.trans (hb1.mono hBp.size) | exact (Zf hBp _).trans (hb1.mono hBp.size))⟩
  ·have hall2:Hid (∀ j e,j < i+1->rs[j]?=some e->e.long=false):=Za (fun j e' hj he'=>by
     rcases Nat.lt_or_ge j i with h' | h'
     ·exact hall.out j e' h' he'
     ·obtain rfl:j=i:=by omega
      rw [he] at he'
      cases he'
      unfold RX.long;simpa using hx)
   rw [decide_eq_false hx] at hC;replace he:=Za he;go_wp2_with fail;refine (hC.out _).mono ?_;rintro e' w1 ⟨rfl,hb1⟩;go_wp2_with fail
   go_roundw
   case rel=>exact ⟨i+1,by omega,by go_num,hall2,(by first | exact hBp.trans (hb1.mono hBp.size) | exact (Zf hBp _).trans (hb1.mono hBp.size))⟩
   case measure=>simp [intOf];omega
theorem Zrk (A:Option Addr) (n c:Nat) (rs:List RX) (w:World) (h:MXL w A n c rs) (b:Bool) (hb:rs.any RX.long=b) :
    Calls Tryz.prog 81 #[.slice A n c,.func (.func 82) #[] #[]] w fun e w'=>e=.returned (.bool b)/\Below w.heap.size w w':=by
 go_enter Tryz.func81,Tryz.ntmps81;go_wp2_with fail;refine (Ztj A n c rs w h b hb).mono ?_;rintro e w1 ⟨i,rfl,hi,hb1⟩;replace hi:=Za hi;go_wp2_with fail;go_ret;exact ⟨Zi1 hi.out,hb1⟩
end Go.Proofs.YtigdclhagmnopaaGreat
