/- Polynomials: lists of whole numbers, the coefficient of -/
import Derived.Test.YtaioanjcjijckaaGreatZb16
set_option linter.unusedSimpArgs false
set_option linter.unusedVariables false
namespace Go.Proofs.YtaioanjcjijckaaGreat
open Go.RowKit
section
variable {t:TypeId} {w w':World} {g:Nat} {xs:List Int}
end
structure Kept (G:Nat->Prop) (w w':World):Prop where
 os:w'.os=w.os
 tape:w'.tape=w.tape
 output:w'.output=w.output
 size:w.heap.size <= w'.heap.size
 block:∀ k,k < w.heap.size->¬ G k->w'.heap[k]?=w.heap[k]?
section
variable {G:Nat->Prop} {w w' w'':World}
theorem Kept.refl (G:Nat->Prop) (w:World):Kept G w w:=⟨rfl,rfl,rfl,Nat.le_refl _,fun _ _ _=>rfl⟩
theorem Kept.trans (h:Kept G w w') (k:Kept G w' w''):Kept G w w'':=
 ⟨k.os.trans h.os,k.tape.trans h.tape,k.output.trans h.output,Nat.le_trans h.size k.size,fun i hi hg=>(k.block i (Nat.lt_of_lt_of_le hi h.size) hg).trans (h.block i hi hg)⟩
theorem Kept.of_below (h:Below w.heap.size w w'):Kept G w w':=⟨h.os,h.tape,h.output,h.size,fun k hk _=>h.block k hk⟩
theorem Kept.below (h:Kept G w w') (k:Below w'.heap.size w' w''):Kept G w w'':=h.trans (Kept.of_below k)
theorem Kept.set_ (h:Kept G w w') {p:Addr} (hp:G p.block \/ w.heap.size <= p.block) (u:Value):Kept G w (w'.setCell p u):=
 ⟨h.os,h.tape,h.output,by simp [World.setCell];exact h.size,fun k hk hg=>(Below.heap_setCell w' p u k (by rcases hp with hp | hp;exact fun e=>hg (e ▸ hp);omega)).trans (h.block k hk hg)⟩
theorem Kept.blk (h:Kept G w w') {g:Nat} {t:TypeId} {cs:Array Value} (hb:Blk w g t cs) (hg:¬ G g):Blk w' g t cs:=(h.block g hb.lt hg).trans hb
theorem Kept.to_below {B:Nat} (h:Kept G w w') (hG:∀ k,G k->B <= k) (hB:B <= w.heap.size):Below B w w':=
 ⟨h.os,h.tape,h.output,h.size,fun k hk=>h.block k (Nat.lt_of_lt_of_le hk hB) (fun hg=>by have:=hG k hg;omega)⟩
theorem Kept.lim (h:Kept G w w') {A:Option Addr} {n c:Nat} {l:List Nat} (hl:Lim w A n c l) (hG:∀ k,G k->∃ t cs,Blk w k t cs/\NoLimb cs):Lim w' A n c l:=
 ⟨hl.1,hl.2.1,hl.2.2.1,hl.2.2.2.1,fun hn=>by
  obtain ⟨b,o,e,hc⟩:=hl.2.2.2.2 hn;refine ⟨b,o,e,fun k hk=>?_⟩;have h0:=hc k hk;refine (World.cell?_of_block (w:=w) (h.block b (Z0 h0) (fun hg=>?_))).trans h0;obtain ⟨t,cs,h1,h2⟩:=hG b hg;have h3:=h0;rw [h1.cell] at h3
  exact h2 _ _ h3⟩
theorem Kept.wd (h:Kept G w w') {neg:Bool} {A:Option Addr} {n c:Nat} {z:Int} (hl:Wd w neg A n c z) (hG:∀ k,G k->∃ t cs,Blk w k t cs/\NoLimb cs):Wd w' neg A n c z:=⟨hl.1,hl.2.1,h.lim hl.2.2 hG⟩
end
section
variable {t:TypeId} {w:World} {g:Nat} {xs zs:List Int}
end
theorem Zp3 {es:List FE} {i:Nat} (e:FE) (h:i < es.length):((((Zr es).set (i * 4) (.bool e.na)).set (i * 4+1) (.slice e.A e.n e.c)).set (i * 4+2) (.bool e.nb)).set (i * 4+3) (.slice e.B e.m e.d)=Zr (es.set i e):=by
 induction es generalizing i with
 | nil=>simp at h
 | cons a l ih =>
  cases i with
  | zero=>rfl
  | succ i =>
   have:=ih (i:=i) (by simpa using h);rw [show (i+1) * 4=i * 4+1+1+1+1 by omega];simp only [Zr,List.set_cons_succ,this]
theorem Zit {es:List FE} {i:Nat} (e:FE) (h:i < es.length):((((Zag es).setIfInBounds (i * 4) (.bool e.na)).setIfInBounds (i * 4+1) (.slice e.A e.n e.c)).setIfInBounds (i * 4+2) (.bool e.nb)).setIfInBounds (i * 4+3) (.slice e.B e.m e.d)=Zag (es.set i e):=by
 unfold Zag;rw [<- Zp3 e h];simp
theorem Zg1 {cs:Array Value} (h:NoLimb cs) (i:Nat) {v:Value} (hv:∀ x,v ≠ limb x):NoLimb (cs.setIfInBounds i v):=fun j x=>by
 rw [Array.getElem?_setIfInBounds]
 split
 ·split
  ·simpa using hv x
  ·simp
 ·exact h j x
def Zi1 (w:World) (g i:Nat) (na:Bool) (A:Option Addr) (n c:Nat) (nb:Bool) (B:Option Addr) (m d:Nat):World:=
 (((w.setCell ⟨g,i * 4,none⟩ (.bool na)).setCell ⟨g,i * 4+1,none⟩ (.slice A n c)).setCell ⟨g,i * 4+2,none⟩ (.bool nb)).setCell ⟨g,i * 4+3,none⟩ (.slice B m d)
section
variable {w:World} {g i:Nat} {na:Bool} {A:Option Addr} {n c:Nat} {nb:Bool} {B:Option Addr} {m d:Nat}
theorem Zof {A':Option Addr} {n' c':Nat} {l:List Nat} {t:TypeId} {cs:Array Value} (h:Lim w A' n' c' l) (hb:Blk w g t cs) (hcs:NoLimb cs):Lim (Zi1 w g i na A n c nb B m d) A' n' c' l:=by
 have h1:=hb.set_ (i * 4) (.bool na);have l1:=Zg1 hcs (i * 4) (v:=.bool na) (fun x=>by simp);have h2:=h1.set_ (i * 4+1) (.slice A n c);have l2:=Zg1 l1 (i * 4+1) (v:=.slice A n c) (fun x=>by simp);have h3:=h2.set_ (i * 4+2) (.bool nb);have l3:=Zg1 l2 (i * 4+2) (v:=.bool nb) (fun x=>by simp);exact (((h.set_box hb hcs _ _).set_box h1 l1 _ _).set_box h2 l2 _ _).set_box h3 l3 _ _
theorem Zh7 {na':Bool} {A':Option Addr} {n' c':Nat} {nb':Bool} {B':Option Addr} {m' d':Nat} {r:Rat} {t:TypeId} {cs:Array Value} (h:Fr w na' A' n' c' nb' B' m' d' r) (hb:Blk w g t cs) (hcs:NoLimb cs):Fr (Zi1 w g i na A n c nb B m d) na' A' n' c' nb' B' m' d' r:=
 ⟨⟨h.1.1,h.1.2.1,Zof h.1.2.2 hb hcs⟩,⟨h.2.1,h.2.2.1,Zof h.2.2.2 hb hcs⟩⟩
theorem Znz {g':Nat} {t:TypeId} {cs:Array Value} (h:Blk w g' t cs) (hg:g' ≠ g):Blk (Zi1 w g i na A n c nb B m d) g' t cs:=(((h.far hg _).far hg _).far hg _).far hg _
theorem Zl0 {G:Nat->Prop} {w0:World} (h:Kept G w0 w) (hg:G g \/ w0.heap.size <= g):Kept G w0 (Zi1 w g i na A n c nb B m d):=
 (((h.set_ (p:=⟨g,i * 4,none⟩) hg _).set_ (p:=⟨g,i * 4+1,none⟩) hg _).set_ (p:=⟨g,i * 4+2,none⟩) hg _).set_ (p:=⟨g,i * 4+3,none⟩) hg _
end
def FRaw (t:TypeId) (w:World) (g n:Nat):Prop:=∃ es:List FE,Blk w g t (Zag es)/\n <= es.length
def FOwn (t:TypeId) (w:World) (g:Nat) (qs:List Rat):Prop:=∃ es zs:List FE,Blk w g t (Zag (es ++ zs))/\(∀ e ∈ es,e.in_ w)/\es.map FE.q=qs
section
variable {t:TypeId} {w w':World} {g:Nat} {qs:List Rat}
theorem FRaw.lt {n:Nat} (h:FRaw t w g n):g < w.heap.size:=by obtain ⟨es,h1,h2⟩:=h;exact h1.lt
theorem FRaw.box {n:Nat} (h:FRaw t w g n):∃ t cs,Blk w g t cs/\NoLimb cs:=by obtain ⟨es,h1,h2⟩:=h;exact ⟨t,_,h1,Zb6 es⟩
theorem FRaw.cells {n i:Nat} (h:FRaw t w g n) (hi:i < n):∃ na A k c nb B m d,w.cell? ⟨g,i * 4,none⟩=some (.bool na)/\w.cell? ⟨g,i * 4+1,none⟩=some (.slice A k c)/\w.cell? ⟨g,i * 4+2,none⟩=some (.bool nb)/\w.cell? ⟨g,i * 4+3,none⟩=some (.slice B m d):=by
 obtain ⟨es,h1,hn⟩:=h;have hc:=Zdw (List.getElem?_eq_getElem (show i < es.length by omega));exact ⟨_,_,_,_,_,_,_,_,by rw [h1.cell];exact hc.1,by rw [h1.cell];exact hc.2.1,by rw [h1.cell];exact hc.2.2.1,by rw [h1.cell];exact hc.2.2.2⟩
theorem FRaw.frozen {n:Nat} (h:FRaw t w g n) (i:Nat):w.frozen? ⟨g,i,none⟩=false:=by obtain ⟨es,h1,-⟩:=h;exact h1.frozen i
theorem FOwn.raw (h:FOwn t w g qs):FRaw t w g qs.length:=by obtain ⟨es,zs,h1,h2,rfl⟩:=h;exact ⟨es ++ zs,h1,by simp⟩
theorem FOwn.below (h:FOwn t w g qs) (hb:Below w.heap.size w w'):FOwn t w' g qs:=by
 obtain ⟨es,zs,h1,h2,h3⟩:=h;exact ⟨es,zs,Zc hb h1,fun e he=>(h2 e he).below hb,h3⟩
theorem FOwn.lt (h:FOwn t w g qs):g < w.heap.size:=h.raw.lt
theorem FOwn.box (h:FOwn t w g qs):∃ t cs,Blk w g t cs/\NoLimb cs:=h.raw.box
theorem FOwn.frozen (h:FOwn t w g qs) (i:Nat):w.frozen? ⟨g,i,none⟩=false:=h.raw.frozen i
theorem FOwn.at_ (h:FOwn t w g qs) {i:Nat} (hi:i < qs.length):∃ na A k c nb B m d,w.cell? ⟨g,i * 4,none⟩=some (.bool na)/\w.cell? ⟨g,i * 4+1,none⟩=some (.slice A k c)/\w.cell? ⟨g,i * 4+2,none⟩=some (.bool nb)/\w.cell? ⟨g,i * 4+3,none⟩=some (.slice B m d)/\Fr w na A k c nb B m d (qs[i]?.getD 0):=by
 obtain ⟨es,zs,h1,h2,rfl⟩:=h
 have hl:i < es.length:=by simpa using hi
 have he:=List.getElem?_eq_getElem hl;have hc:=Zdw (es:=es ++ zs) (i:=i) (e:=es[i]) (by rw [List.getElem?_append_left hl];exact he);refine ⟨_,_,_,_,_,_,_,_,by rw [h1.cell];exact hc.1,by rw [h1.cell];exact hc.2.1,by rw [h1.cell];exact hc.2.2.1,by rw [h1.cell];exact hc.2.2.2,?_⟩;rw [List.getElem?_map,he];exact h2 _ (List.getElem_mem hl)
theorem FOwn.set_ (h:FOwn t w g qs) {i:Nat} (hi:i < qs.length) {na:Bool} {A:Option Addr} {k c:Nat} {nb:Bool} {B:Option Addr} {m d:Nat} {r:Rat} (hr:Fr w na A k c nb B m d r):FOwn t (Zi1 w g i na A k c nb B m d) g (qs.set i r):=by
 obtain ⟨es,zs,h1,h2,rfl⟩:=h
 have hl:i < es.length:=by simpa using hi
 have h3:=(((h1.set_ (i * 4) (.bool na)).set_ (i * 4+1) (.slice A k c)).set_ (i * 4+2) (.bool nb)).set_ (i * 4+3) (.slice B m d);have hs:=Zit (es:=es ++ zs) (i:=i) ⟨na,A,k,c,nb,B,m,d,r⟩ (by rw [List.length_append];omega);dsimp only at hs;rw [hs,List.set_append_left _ _ hl] at h3;refine ⟨_,zs,h3,fun e he=>?_,by rw [List.map_set]⟩
 rcases List.mem_or_eq_of_mem_set he with he | rfl
 ·exact Zh7 (h2 e he) h1 (Zb6 _)
 ·exact Zh7 hr h1 (Zb6 _)
theorem FOwn.other {g' i:Nat} {na:Bool} {A:Option Addr} {k c:Nat} {nb:Bool} {B:Option Addr} {m d:Nat} (h:FOwn t w g qs) (hne:g ≠ g') (hb:∃ t cs,Blk w g' t cs/\NoLimb cs):FOwn t (Zi1 w g' i na A k c nb B m d) g qs:=by
 obtain ⟨es,zs,h1,h2,h3⟩:=h;obtain ⟨t',cs,hb,hcs⟩:=hb;exact ⟨es,zs,Znz h1 hne,fun e he=>Zh7 (h2 e he) hb hcs,h3⟩
theorem OwnF.fown {base:Nat} {v:Value} (h:OwnF t w base v qs):(v=.slice none 0 0/\qs=[]) \/ ∃ g c,v=.slice (some ⟨g,0,none⟩) qs.length c/\base <= g/\qs.length <= c/\c <= maxLen/\FOwn t w g qs:=by
 obtain ⟨es,h1,h2,rfl⟩:=h
 rcases h1 with ⟨rfl,rfl⟩ | ⟨g,sp,rfl,h4,h5,h6⟩
 ·exact .inl ⟨rfl,rfl⟩
 ·exact .inr ⟨g,_,by rw [List.length_map],h4,by rw [List.length_map];omega,h5,es,List.replicate sp Za0,h6,h2,rfl⟩
end
def cn (f1 f2:Nat) (l:Array Bool) (s1 s2:Bool):Array Bool:=
 let l:=if s1 then l.setIfInBounds f1 true else l
 if s2 then l.setIfInBounds f2 true else l
theorem Zuo {t:Array Value} {d:Nat} {u:Value} (h:t[d]?=some u):t.setIfInBounds d u=t:=by
 apply Array.ext
 ·simp
 ·intro i h1 h2
  rw [Array.getElem_setIfInBounds (by simpa using h1)]
  split
  ·rename_i e
   subst e;rw [Array.getElem?_eq_getElem h2] at h
   injection h with h
   exact h.symm
  ·rfl
section
variable {P:Program} {ops:Array Oper} {Q:Exit->Act->World->Prop} {md:Region.Mode} {L:List Nat} {S:World->Prop} {f1 f2 d1 d2 F:Nat} {t1 t2:TypeId} {z1 z2:Array Value}
theorem Zn {i:Nat} {o:Oper} {K:Act->World->Prop} {a:Act} {w:World} (ho:ops[i]?=some o)
    (h:∀ K':Act->World->Prop,Shut (∀ a w,K a w->K' a w)->if Region.wanted o (yielded ops a.tmps)=true then Oper.wp P o a w K' Q else K' (a.put o.dst undef) w):wpOp P ops Q i K a w:=
 wpOp_step ho (fun K' hK=>h K' hK)
end
def Zav (md:Region.Mode) (ops:Array Oper) (i:Nat):List Nat:=match ops[i]? with | some o=>(o.after.toList.filter (fun e=>Region.binds md e)).map (·.on) | none=>[]
def Za3 (ops:Array Oper) (i:Nat):Nat:=match ops[i]? with | some o=>o.dst.getD 0 | none=>0
def Zbf (R:List Nat) (l:Array Bool):Array Bool:=R.foldl (fun l i=>l.setIfInBounds i true) l
def clo (md:Region.Mode) (ops:Array Oper):List Nat->List Nat->List Nat
 | [],c=>c
 | r :: rs,c=>clo md ops rs (if c.contains r then Zav md ops r ++ c else c)
def Zbv:List Nat->Bool
 | []=>true
 | x :: l=>!l.contains x && Zbv l
def Zam:List Nat->Act->(Nat->Value)->Act
 | [],a,_=>a
 | d :: ds,a,ν=>Zam ds (a.put (some d) (ν d)) ν
def upd (ν:Nat->Value) (d:Nat) (v:Value):Nat->Value:=fun k=>if k=d then v else ν k
theorem Zte {a:Act} {d e:Nat} {u v:Value} (h:d ≠ e):(a.put (some d) u).put (some e) v=(a.put (some e) v).put (some d) u:=by
 simp only [Act.put];rw [Array.setIfInBounds_comm _ _ h]
theorem Zrn {ds:List Nat} {a:Act} {ν:Nat->Value} {d:Nat} {v:Value} (h:d ∉ ds):Zam ds (a.put (some d) v) ν=(Zam ds a ν).put (some d) v:=by
 induction ds generalizing a with
 | nil=>rfl
 | cons e ds ih =>
  have h1:d ≠ e:=fun h'=>h (h' ▸ List.mem_cons_self ..)
  show Zam ds ((a.put (some d) v).put (some e) (ν e)) ν=_;rw [Zte h1,ih (fun h'=>h (List.mem_cons_of_mem _ h'))]
  rfl
theorem Zkx {ds:List Nat} {a:Act} {ν:Nat->Value} {d:Nat} {v:Value} (h:d ∉ ds):Zam ds a (upd ν d v)=Zam ds a ν:=by
 induction ds generalizing a with
 | nil=>rfl
 | cons e ds ih =>
  have h1:e ≠ d:=fun h'=>h (h' ▸ List.mem_cons_self ..)
  show Zam ds (a.put (some e) (upd ν d v e)) (upd ν d v)=Zam ds (a.put (some e) (ν e)) ν;rw [ih (fun h'=>h (List.mem_cons_of_mem _ h'))];simp only [upd,if_neg h1]
theorem put_put {a:Act} {d:Nat} {u v:Value}:(a.put (some d) u).put (some d) v=a.put (some d) v:=by
 simp only [Act.put];rw [Array.setIfInBounds_setIfInBounds]
theorem Zbs {x:Nat} {l:List Nat} (h:Zbv (x :: l)=true):x ∉ l/\Zbv l=true:=by
 simp only [Zbv,Bool.and_eq_true,Bool.not_eq_true'] at h;exact ⟨fun hx=>by rw [List.contains_iff_mem.2 hx] at h;exact absurd h.1 (by simp),h.2⟩
theorem Ziq {ds:List Nat} {a:Act} {ν:Nat->Value} {d:Nat} {v:Value} (h:d ∈ ds) (hn:Zbv ds=true):(Zam ds a ν).put (some d) v=Zam ds a (upd ν d v):=by
 induction ds generalizing a with
 | nil=>cases h
 | cons e ds ih =>
  obtain ⟨h1,h2⟩:=Zbs hn;show (Zam ds (a.put (some e) (ν e)) ν).put (some d) v=Zam ds (a.put (some e) (upd ν d v e)) (upd ν d v)
  by_cases hd:d=e
  ·subst hd
   rw [<- Zrn h1,put_put,Zkx h1];simp only [upd,if_true]
  ·rcases List.mem_cons.1 h with h' | h'
   ·exact absurd h' hd
   ·rw [ih h' h2]
    simp only [upd,if_neg (Ne.symm hd)]
theorem Zo5 {ds:List Nat} {a:Act}:Zam ds a (fun d=>a.tmps.getD d undef)=a:=by
 induction ds with
 | nil=>rfl
 | cons d ds ih =>
  show Zam ds (a.put (some d) (a.tmps.getD d undef)) _=a
  have:a.put (some d) (a.tmps.getD d undef)=a:=by
   cases a with
   | mk t df =>
    simp only [Act.put]
    congr 1
    rcases Nat.lt_or_ge d t.size with h | h
    ·exact Zuo (by rw [Array.getD_eq_getD_getElem?,Array.getElem?_eq_getElem h];rfl)
    ·exact Array.setIfInBounds_eq_of_size_le h
  rw [this];exact ih
theorem Zb1 (R:List Nat) (l:Array Bool) (k:Nat):(Zbf R l).getD k true=if k ∈ R then true else l.getD k true:=by
 unfold Zbf
 induction R generalizing l with
 | nil=>simp
 | cons r R ih =>
  rw [List.foldl_cons,ih]
  by_cases h1:k ∈ R
  ·rw [if_pos h1,if_pos (List.mem_cons_of_mem _ h1)]
  ·rw [if_neg h1]
   by_cases h2:k=r
   ·subst h2
    rw [if_pos (List.mem_cons_self ..)];rw [Array.getD_eq_getD_getElem?,Array.getElem?_setIfInBounds]
    split
    ·split <;> rfl
    ·rename_i h;exact absurd rfl h
   ·rw [if_neg (fun h=>by rcases List.mem_cons.1 h with h | h;exact h2 h;exact h1 h),Go.getD_set_ne true (Ne.symm h2)]
theorem Zfl (R:List Nat) (l:Array Bool):(Zbf R l).size=l.size:=by
 unfold Zbf
 induction R generalizing l with
 | nil=>rfl
 | cons r R ih=>rw [List.foldl_cons,ih];simp
theorem Zpd {l m:Array Bool} (hs:l.size=m.size) (h:∀ k,l.getD k true=m.getD k true):l=m:=by
 apply Array.ext hs
 intro i h1 h2;have:=h i;rw [Array.getD_eq_getD_getElem?,Array.getD_eq_getD_getElem?,Array.getElem?_eq_getElem h1,Array.getElem?_eq_getElem h2] at this;exact this
section
variable {P:Program} {ops:Array Oper} {Q:Exit->Act->World->Prop} {md:Region.Mode} {L:List Nat} {S:World->Prop}
theorem Zo2 {l:Array Bool} {R:List Nat} (hd:∀ r ∈ R,l.getD r false=true->∀ p ∈ Zav md ops r,l.getD p false=true) :
    ∀ (rs:List Nat) (c:List Nat),(∀ r ∈ rs,r ∈ R)->(∀ x ∈ c,l.getD x false=true)->∀ x ∈ clo md ops rs c,l.getD x false=true
 | [],c,_,hc,x,hx=>hc x hx
 | r :: rs,c,hr,hc,x,hx=>by
  refine Zo2 hd rs _ (fun y hy=>hr y (List.mem_cons_of_mem _ hy)) (fun y hy=>?_) x hx
  split at hy
  ·rename_i h1
   rcases List.mem_append.1 hy with h2 | h2
   ·exact hd r (hr r (List.mem_cons_self ..)) (hc r (List.contains_iff_mem.1 h1)) y h2
   ·exact hc y h2
  ·exact hc y hy
theorem Zdz {l:Array Bool} {k:Nat} (h:l.getD k false=true):l.getD k true=true:=by
 rw [Array.getD_eq_getD_getElem?] at h ⊢
 cases hk:l[k]? with
 | none=>rfl
 | some b=>rw [hk] at h;exact h
theorem Zak {l:Array Bool} {k j:Nat} (h:l.getD k false=true):(l.setIfInBounds j true).getD k false=true:=by
 by_cases hkj:j=k
 ·subst hkj
  rw [Array.getD_eq_getD_getElem?,Array.getElem?_setIfInBounds_self];rw [Array.getD_eq_getD_getElem?] at h
  split
  ·rfl
  ·rename_i h1;rw [Array.getElem?_eq_none (by omega)] at h;cases h
 ·rw [Go.getD_set_ne false hkj];exact h
theorem Zjs {i:Nat} {l:Array Bool} (h:i ∈ Region.ready md ops l):l.getD i true=false/\i < ops.size/\∀ p ∈ Zav md ops i,l.getD p false=true:=by
 obtain ⟨h1,o,ho,h2⟩:=mem_ready.1 h;refine ⟨h1,(Array.getElem?_eq_some_iff.1 ho).1,fun p hp=>?_⟩;unfold Zav at hp;rw [ho] at hp;obtain ⟨e,he,rfl⟩:=List.mem_map.1 hp;rw [List.mem_filter] at he;exact h2 e (by simpa using he.1) he.2
theorem Zf8 {i:Nat} {l:Array Bool} (h1:l.getD i true=false) {o:Oper} (ho:ops[i]?=some o) (h:∀ p ∈ Zav md ops i,l.getD p false=true):i ∈ Region.ready md ops l:=by
 refine mem_ready.2 ⟨h1,o,ho,fun e he hb=>h _ ?_⟩;unfold Zav;rw [ho];exact List.mem_map.2 ⟨e,List.mem_filter.2 ⟨by simpa using he,hb⟩,rfl⟩
def left (R:List Nat) (l:Array Bool):Nat:=(R.filter fun r=>!l.getD r true).length
theorem Zjt {f:Nat->Nat}:∀ {R:List Nat},Zbv (R.map f)=true->Zbv R=true
 | [],_=>rfl
 | r :: R,h=>by
  obtain ⟨h1,h2⟩:=Zbs (x:=f r) (l:=R.map f) h;simp only [Zbv,Bool.and_eq_true,Bool.not_eq_true'];refine ⟨?_,Zjt h2⟩
  cases hc:R.contains r with
  | false=>rfl
  | true=>exact absurd (List.mem_map.2 ⟨r,List.contains_iff_mem.1 hc,rfl⟩) h1
theorem Zeu {f:Nat->Nat}:∀ {R:List Nat},Zbv (R.map f)=true->∀ {r i:Nat},r ∈ R->i ∈ R->r ≠ i->f r ≠ f i
 | [],_,_,_,h,_,_=>by cases h
 | x :: R,h,r,i,hr,hi,hne=>by
  obtain ⟨h1,h2⟩:=Zbs (x:=f x) (l:=R.map f) h
  rcases List.mem_cons.1 hr with hr' | hr'
  ·rcases List.mem_cons.1 hi with hi' | hi'
   ·exact absurd (hr'.trans hi'.symm) hne
   ·exact fun e=>h1 (List.mem_map.2 ⟨i,hi',by rw [<- e,hr']⟩)
  ·rcases List.mem_cons.1 hi with hi' | hi'
   ·exact fun e=>h1 (List.mem_map.2 ⟨r,hr',by rw [e,hi']⟩)
   ·exact Zeu h2 hr' hi' hne
theorem Zrr {R:List Nat} {l:Array Bool} {i:Nat} (hi:i ∉ R):left R (l.setIfInBounds i true)=left R l:=by
 unfold left
 congr 1
 apply List.filter_congr
 intro r hr;rw [Go.getD_set_ne true (fun e:i=r=>hi (e ▸ hr))]
theorem Zjk {R:List Nat} {l:Array Bool} {i:Nat} (hn:Zbv R=true) (hi:i ∈ R) (h:l.getD i true=false):left R (l.setIfInBounds i true)+1=left R l:=by
 have hlt:i < l.size:=by
  rcases Nat.lt_or_ge i l.size with h' | h'
  ·exact h'
  ·rw [Array.getD_eq_getD_getElem?,Array.getElem?_eq_none h'] at h;cases h
 have hset:(l.setIfInBounds i true).getD i true=true:=by
  rw [Array.getD_eq_getD_getElem?,Array.getElem?_setIfInBounds_self,if_pos hlt];rfl
 induction R with
 | nil=>cases hi
 | cons r R ih =>
  obtain ⟨n1,n2⟩:=Zbs hn
  by_cases hr:i=r
  ·subst hr
   have:=Zrr (l:=l) n1;unfold left at this ⊢;rw [List.filter_cons_of_neg (by simp [hset]),List.filter_cons_of_pos (by simp [h]),this]
   rfl
  ·have hi2:i ∈ R:=by
     rcases List.mem_cons.1 hi with h' | h'
     ·exact absurd h' hr
     ·exact h'
   have:=ih n2 hi2;unfold left at this ⊢
   by_cases hb:l.getD r true=true
   ·rw [List.filter_cons_of_neg (by rw [Go.getD_set_ne true hr];simp [hb]),List.filter_cons_of_neg (by simp [hb])];exact this
   ·rw [List.filter_cons_of_pos (by rw [Go.getD_set_ne true hr];simpa using hb),List.filter_cons_of_pos (by simpa using hb),List.length_cons,List.length_cons,this]
theorem Zoq (R:List (Nat × Nat)) (h:R.all (fun p=>Za3 ops p.1 == p.2)=true):(R.map (·.1)).map (Za3 ops)=R.map (·.2):=by
 rw [List.map_map]
 apply List.map_congr_left
 intro p hp;rw [List.all_eq_true] at h
 simpa using h p hp
end
section
variable {P:Program} {ops:Array Oper} {Q:Exit->Act->World->Prop} {md:Region.Mode} {L:List Nat} {S:World->Prop}
theorem Zh9 {i:Nat} {oi:Oper} {v:Value} (hi:ops[i]?=some oi) (hsel:∀ (j:Nat) (o:Oper) cs b,ops[j]?=some o->o.op ≠ .select cs b)
    (hQ:∀ c a w,Q (.panic c) (a.put oi.dst v) w->Q (.panic c) a w) (hiL:L.contains i=false) :
    ∀ (fuel:Nat) (listed:Array Bool) (a:Act) (w:World),
     (∀ j oj,ops[j]?=some oj->j ≠ i->listed.getD j true=false->(∀ e ∈ oj.after,Region.binds md e=true->e.on ≠ i)->oi.apart ops oj=true) ->
     i ∈ Region.ready md ops listed->YieldsIf P ops (fun _=>True) oi v a->(Zc8 L listed=true->S w) ->
     Zaj P md ops Q L S fuel (listed.setIfInBounds i true) (a.put oi.dst v) w->Zaj P md ops Q L S (fuel+1) listed a w:=by
 have hiL':i ∉ L:=fun h=>by
  rw [List.contains_iff_mem.2 h] at hiL
  cases hiL
 intro fuel
 induction fuel with
 | zero =>
  intro listed a w _ hr hy hS H;refine ⟨fun h=>(by rw [h] at hr;cases hr),fun j hj=>?_⟩
  by_cases hji:j=i
  ·subst hji;exact hy.wpOp hi trivial ⟨fun h=>hS (by rwa [Zcs hiL'] at h),H⟩
  ·have:=ready_mono hj hji
   rw [H.1] at this
   cases this
 | succ fuel ih =>
  intro listed a w hfree hr hy hS H;refine ⟨fun h=>(by rw [h] at hr;cases hr),fun j hj=>?_⟩
  by_cases hji:j=i
  ·subst hji;exact hy.wpOp hi trivial ⟨fun h=>hS (by rwa [Zcs hiL'] at h),H⟩
  ·have h1:=H.2 j (ready_mono hj hji)
   obtain ⟨hjun,oj,hoj,hall⟩:=mem_ready.1 hj
   have hnot:∀ e ∈ oj.after,Region.binds md e=true->e.on ≠ i:=fun e he hb heq=>by
    have h1:=hall e he hb;have h0:=(mem_ready.1 hr).1;rw [heq] at h1
    rcases Nat.lt_or_ge i listed.size with h' | h'
    ·simp [h'] at h0 h1;rw [h0] at h1;cases h1
    ·simp [Array.getElem?_eq_none h'] at h1
   have h2:=wpOp_putIf hoj (hfree j oj hoj hji hjun hnot) (fun cs b=>hsel i oi cs b hi) (fun cs b=>hsel j oj cs b hoj) hQ hy h1
   have hfree':∀ k ok,ops[k]?=some ok->k ≠ i->(listed.setIfInBounds j true).getD k true=false ->
       (∀ e ∈ ok.after,Region.binds md e=true->e.on ≠ i)->oi.apart ops ok=true:=fun k ok hk hki hun hno=>by
    refine hfree k ok hk hki ?_ hno
    by_cases hjk:j=k
    ·subst hjk;exact hjun
    ·rw [Go.getD_set_ne true hjk] at hun;exact hun
   refine wpOp_mono (fun a' w' h3=>?_) h2
   have hSj:Zc8 L (listed.setIfInBounds j true)=true->S w':=fun h=>h3.2.1 (by
    rw [Array.setIfInBounds_comm _ _ (Ne.symm hji),Zcs hiL'];exact h)
   refine ⟨hSj,ih (listed.setIfInBounds j true) a' w' hfree' (ready_mono hr (Ne.symm hji)) h3.1 hSj ?_⟩;rw [Array.setIfInBounds_comm _ _ hji];exact h3.2.2
theorem Zs {i:Nat} {oi:Oper} {v:Value} {fuel:Nat} {listed:Array Bool} {a:Act} {w:World} (hi:ops[i]?=some oi)
    (hs:Region.noSelect ops=true) (hf:Region.free md ops listed i=true) (hr:(Region.ready md ops listed).contains i=true) (hL:L.contains i=false)
    (hy:YieldsIf P ops (fun _=>True) oi v a) (hS:Zc8 L listed=true->S w)
    (h:Zaj P md ops (OnlyNormal Q) L S fuel (listed.setIfInBounds i true) (a.put oi.dst v) w):Zaj P md ops (OnlyNormal Q) L S (fuel+1) listed a w:=
 Zh9 hi (Region.noSelect_spec hs) (fun _ _ _ h=>(h:False).elim) hL fuel listed a w (Region.free_spec hi hf) (by simpa using hr) hy hS h
end
section
variable {P:Program} {ops:Array Oper} {Q:Exit->Act->World->Prop} {md:Region.Mode} {L:List Nat} {S:World->Prop}
end
def Zmy (md:Region.Mode) (ops:Array Oper) (L:List Nat):List Nat->Array Bool->Bool
 | [],_=>true
 | i :: is,l=>Region.free md ops l i && (Region.ready md ops l).contains i && !L.contains i && Zmy md ops L is (l.setIfInBounds i true)
section
variable {P:Program} {ops:Array Oper} {Q:Exit->Act->World->Prop} {md:Region.Mode} {L:List Nat} {S:World->Prop}
theorem Zls (hs:Region.noSelect ops=true) {w:World} (hS:S w):∀ (is:List Nat) (F:Nat) (listed:Array Bool) (a:Act),Zmy md ops L is listed=true->Zf3 P ops (fun _=>True) is a (fun a'=>Zaj P md ops (OnlyNormal Q) L S F (Zhp is listed) a' w)->Zaj P md ops (OnlyNormal Q) L S (F+is.length) listed a w
 | [],F,l,a,_,h=>h
 | i :: is,F,l,a,hc,h=>by
  obtain ⟨oi,v,ho,hy,h2⟩:=h;simp only [Zmy,Bool.and_eq_true,Bool.not_eq_true'] at hc;exact Zs ho hs hc.1.1.1 hc.1.1.2 hc.1.2 hy (fun _=>hS) (Zls hs hS is F _ _ hc.2 h2)
theorem Zu4 {F:Nat} {listed:Array Bool} {a:Act} {w:World} (k:Nat) (is:List Nat) (hk:is.length=k) (hc:(Region.noSelect ops && Zmy md ops L is listed)=true) (hS:S w)
    (h:Zf3 P ops (fun _=>True) is a (fun a'=>Zaj P md ops (OnlyNormal Q) L S F (Zhp is listed) a' w)):Zaj P md ops (OnlyNormal Q) L S (F+k) listed a w:=by
 rw [Bool.and_eq_true] at hc;subst hk;exact Zls hc.1 hS is F listed a hc.2 h
end
def Za1 (R:List Nat) (att:Nat->List Nat):List Nat:=R.flatMap fun i=>i :: att i
def Zgv (md:Region.Mode) (ops:Array Oper) (l:Array Bool) (i:Nat):List Nat->List Nat->Bool
 | [],_=>true
 | u :: us,done=>(match ops[u]? with | some o=>o.dst.isSome | none=>false) && (Zav md ops u).contains i && !l.getD u true && (Zav md ops u).all (fun p=>p == i || done.contains p || l.getD p false || (Zav md ops i).contains p) &&
     ((List.range ops.size).all fun j=>j == u || (j == i || done.contains j || l.getD j false || (Zav md ops i).contains j) || (Zav md ops j).contains u || (match ops[u]?,ops[j]? with | some ou,some oj=>ou.apart ops oj | _,_=>true)) && Zgv md ops l i us (u :: done)
def Zqu (md:Region.Mode) (ops:Array Oper) (att:Nat->List Nat):List Nat->Array Bool->Bool
 | [],_=>true
 | r :: rs,l=>!l.getD r true && (match ops[r]? with | some o=>o.dst.isSome | none=>false) && (Zav md ops r).all (fun p=>l.getD p false) && Zqu md ops att rs (Zbf (r :: att r) l)
def Zt3 (md:Region.Mode) (ops:Array Oper) (R F:List Nat) (l:Array Bool):Bool:=
 (List.range ops.size).all fun k=>F.contains k || l.getD k true || (Zav md ops k).any (fun p=>!F.contains p && !l.getD p false) || (R.all fun r=>(clo md ops F.reverse (Zav md ops k)).contains r)
def Zjg (md:Region.Mode) (ops:Array Oper) (R:List Nat) (att:Nat->List Nat) (l:Array Bool):Bool:=
 Zqu md ops att R l && Zt3 md ops R (Za1 R att) l && Zbv ((Za1 R att).map (Za3 ops)) && decide (l.size=ops.size) && R.all (fun i=>Zgv md ops l i (att i) []) && Region.noSelect ops
section
variable {P:Program} {ops:Array Oper} {Q:Exit->Act->World->Prop} {md:Region.Mode} {L:List Nat} {S:World->Prop}
def Zn4 (P:Program) (ops:Array Oper) (Φ:Nat->Value->World->Prop) (w:World):List Nat->Act->Prop
 | [],_=>True
 | u :: us,a=>∃ o v,ops[u]?=some o/\YieldsIf P ops (fun _=>True) o v a/\Φ u v w/\Zn4 P ops Φ w us (a.put o.dst v)
theorem Zf1 {l:Array Bool} {i:Nat} (h:i < l.size):(l.setIfInBounds i true).getD i false=true:=by
 rw [Array.getD_eq_getD_getElem?,Array.getElem?_setIfInBounds_self,if_pos h];rfl
theorem Zby {us:List Nat} {l:Array Bool} {k:Nat} (h:l.getD k false=true):(Zbf us l).getD k false=true:=by
 induction us generalizing l with
 | nil=>exact h
 | cons u us ih=>exact ih (l:=l.setIfInBounds u true) (Zak h)
theorem Zkb {us:List Nat} {l:Array Bool} {k:Nat} (hk:k ∈ us) (h:k < l.size):(Zbf us l).getD k false=true:=by
 induction us generalizing l with
 | nil=>cases hk
 | cons u us ih =>
  rcases List.mem_cons.1 hk with rfl | hk
  ·exact Zby (us:=us) (Zf1 h)
  ·exact ih (l:=l.setIfInBounds u true) hk (by simp;exact h)
theorem Zpv {Φ:Nat->Value->World->Prop} {l0:Array Bool} {i:Nat} {R:List Nat} {a0:Act} {w:World} {F:Nat} (hns:Region.noSelect ops=true) (hnd:Zbv (R.map (Za3 ops))=true) (hiR:i ∈ R) :
    ∀ (us done:List Nat) (l:Array Bool) (ν:Nat->Value),Zgv md ops l0 i us done=true->(∀ u ∈ us,u ∈ R)->(∀ u ∈ us,u ∉ L)->(∀ u ∈ us,l.getD u true=false)->l.size=ops.size->Zbv us=true ->
     (∀ p,l0.getD p false=true->l.getD p false=true)->l.getD i false=true->(∀ p ∈ Zav md ops i,l.getD p false=true)->(∀ u ∈ done,l.getD u false=true)->S w ->
     Zn4 P ops Φ w us (Zam (R.map (Za3 ops)) a0 ν) ->
     (∀ ν',(∀ k,(∀ u ∈ us,Za3 ops u ≠ k)->ν' k=ν k)->(∀ u ∈ us,Φ u (ν' (Za3 ops u)) w)->Zaj P md ops (OnlyNormal Q) L S F (Zbf us l) (Zam (R.map (Za3 ops)) a0 ν') w) ->
     Zaj P md ops (OnlyNormal Q) L S (us.length+F) l (Zam (R.map (Za3 ops)) a0 ν) w:=by
 intro us
 induction us with
 | nil =>
  intro done l ν _ _ _ _ _ _ _ _ _ _ _ _ h;rw [show ([]:List Nat).length+F=F by simp];exact h ν (fun _ _=>rfl) (fun u hu=>by cases hu)
 | cons u us ih =>
  intro done l ν hat hR hL hun hsz hndu hl0 hi hp hdone hS htr h;simp only [Zgv,Bool.and_eq_true,List.all_eq_true] at hat;obtain ⟨⟨⟨⟨⟨h1,h2⟩,h3⟩,h4⟩,h5⟩,h6⟩:=hat;obtain ⟨o,v,ho,hy,hΦ,htr2⟩:=htr;obtain ⟨n1,n2⟩:=Zbs hndu;have husz:u < ops.size:=(Array.getElem?_eq_some_iff.1 ho).1;have hu0:=hun u (List.mem_cons_self ..)
  have hready:u ∈ Region.ready md ops l:=Zf8 hu0 ho (fun p hp2=>by
   have h7:=h4 p hp2;simp only [Bool.or_eq_true,beq_iff_eq] at h7
   rcases h7 with ((h7 | h7) | h7) | h7
   ·rw [h7];exact hi
   ·exact hdone p (List.contains_iff_mem.1 h7)
   ·exact hl0 p h7
   ·exact hp p (List.contains_iff_mem.1 h7))
  have hdst:o.dst=some (Za3 ops u):=by
   rw [ho] at h1;obtain ⟨d,hd⟩:=Option.isSome_iff_exists.1 h1;unfold Za3;rw [ho];simp only [hd,Option.getD_some]
  have hdn:Za3 ops u ∈ R.map (Za3 ops):=List.mem_map.2 ⟨u,hR u (List.mem_cons_self ..),rfl⟩;rw [List.length_cons,Nat.add_right_comm]
  refine Zh9 ho (Region.noSelect_spec hns) (fun _ _ _ h=>(h:False).elim) (by
   cases hc:L.contains u with
   | false=>rfl
   | true=>exact absurd (List.contains_iff_mem.1 hc) (hL u (List.mem_cons_self ..))) _ l _ w (fun j oj hoj hju hjl hnw=>?_) hready hy (fun _=>hS) ?_
  ·have h7:=h5 j (List.mem_range.2 (Array.getElem?_eq_some_iff.1 hoj).1)
   simp only [Bool.or_eq_true,beq_iff_eq] at h7
   rcases h7 with ((h7 | h7) | h7) | h7
   ·exact absurd h7 hju
   ·exfalso
    have h8:l.getD j false=true:=by
     rcases h7 with ((h7 | h7) | h7) | h7
     ·rw [h7];exact hi
     ·exact hdone j (List.contains_iff_mem.1 h7)
     ·exact hl0 j h7
     ·exact hp j (List.contains_iff_mem.1 h7)
    rw [Zdz h8] at hjl
    cases hjl
   ·exfalso
    have h8:=List.contains_iff_mem.1 h7;unfold Zav at h8;rw [hoj] at h8;obtain ⟨e,he,he2⟩:=List.mem_map.1 h8;rw [List.mem_filter] at he;exact hnw e (by simpa using he.1) he.2 he2
   ·rw [ho,hoj] at h7;exact h7
  ·rw [hdst,Ziq hdn hnd]
   refine ih (u :: done) (l.setIfInBounds u true) (upd ν (Za3 ops u) v) h6 (fun x hx=>hR x (List.mem_cons_of_mem _ hx)) (fun x hx=>hL x (List.mem_cons_of_mem _ hx)) (fun x hx=>?_) (by simp;exact hsz) n2 (fun p hp2=>Zak (hl0 p hp2)) (Zak hi) (fun p hp2=>Zak (hp p hp2)) (fun x hx=>?_) hS ?_ (fun ν' k1 k2=>?_)
   ·rw [Go.getD_set_ne true (fun e:u=x=>n1 (e ▸ hx))]
    exact hun x (List.mem_cons_of_mem _ hx)
   ·rcases List.mem_cons.1 hx with rfl | hx
    ·exact Zf1 (by omega)
    ·exact Zak (hdone x hx)
   ·rw [hdst,Ziq hdn hnd] at htr2
    exact htr2
   ·refine h ν' (fun k hk=>?_) (fun x hx=>?_)
    ·rw [k1 k (fun x hx=>hk x (List.mem_cons_of_mem _ hx))]
     simp only [upd,if_neg (Ne.symm (hk u (List.mem_cons_self ..)))]
    ·rcases List.mem_cons.1 hx with rfl | hx
     ·have h9:∀ y ∈ us,Za3 ops y ≠ Za3 ops x:=fun y hy=>Zeu hnd (hR y (List.mem_cons_of_mem _ hy)) (hR x (List.mem_cons_self ..)) (fun e=>n1 (e ▸ hy))
      rw [k1 _ h9];simp only [upd,if_true];exact hΦ
     ·exact k2 x hx
theorem Zki {us:List Nat} {l:Array Bool} {k:Nat} (h:(Zbf us l).getD k false=true):k ∈ us \/ l.getD k false=true:=by
 induction us generalizing l with
 | nil=>exact .inr h
 | cons u us ih =>
  rcases ih (l:=l.setIfInBounds u true) h with h1 | h1
  ·exact .inl (List.mem_cons_of_mem _ h1)
  ·by_cases hk:u=k
   ·exact .inl (hk ▸ List.mem_cons_self ..)
   ·rw [Go.getD_set_ne false hk] at h1;exact .inr h1
theorem Zf0 {us:List Nat} {l:Array Bool} {k:Nat} (h:(Zbf us l).getD k true=false):l.getD k true=false:=by
 rw [Zb1] at h
 split at h
 ·cases h
 ·exact h
theorem Zhg {att:Nat->List Nat}:∀ (R:List Nat) (l0:Array Bool),Zqu md ops att R l0=true->(∀ r ∈ R,l0.getD r true=false/\∃ o d,ops[r]?=some o/\o.dst=some d) /\
      ∀ l:Array Bool,l.size=l0.size->(∀ k,l0.getD k false=true->l.getD k false=true)->(∀ r ∈ R,l.getD r true=true->∀ u ∈ att r,l.getD u false=true)->(∃ r ∈ R,l.getD r true=false)->∃ r ∈ R,l.getD r true=false/\∀ p ∈ Zav md ops r,l.getD p false=true
 | [],_,_=>⟨fun r hr=>(by cases hr),fun l _ _ _ ⟨r,hr,_⟩=>(by cases hr)⟩
 | r :: R,l0,h=>by
  simp only [Zqu,Bool.and_eq_true,Bool.not_eq_true',List.all_eq_true] at h;obtain ⟨⟨⟨h1,h2⟩,h3⟩,h4⟩:=h;obtain ⟨k1,k2⟩:=Zhg R _ h4;refine ⟨fun x hx=>?_,fun l hsz hl hat hu=>?_⟩
  ·rcases List.mem_cons.1 hx with rfl | hx
   ·refine ⟨h1,?_⟩
    cases ho:ops[x]? with
    | none=>rw [ho] at h2;cases h2
    | some o =>
     rw [ho] at h2;obtain ⟨d,hd⟩:=Option.isSome_iff_exists.1 h2;exact ⟨o,d,rfl,hd⟩
   ·obtain ⟨m1,m2⟩:=k1 x hx
    exact ⟨Zf0 m1,m2⟩
  ·by_cases hr:l.getD r true=false
   ·exact ⟨r,List.mem_cons_self ..,hr,fun p hp=>hl p (h3 p hp)⟩
   ·have hr2:l.getD r true=true:=by simpa using hr
    have hrs:r < l0.size:=by
     rcases Nat.lt_or_ge r l0.size with h' | h'
     ·exact h'
     ·rw [Array.getD_eq_getD_getElem?,Array.getElem?_eq_none h'] at h1;cases h1
    have hrl:r < l.size:=by omega
    have hrf:l.getD r false=true:=by
     rw [Array.getD_eq_getD_getElem?,Array.getElem?_eq_getElem hrl] at hr2 ⊢;exact hr2
    obtain ⟨x,hx,hx2⟩:=k2 l (by rw [Zfl];exact hsz) (fun k hk=>by
     rcases Zki hk with h5 | h5
     ·rcases List.mem_cons.1 h5 with rfl | h5
      ·exact hrf
      ·exact hat r (List.mem_cons_self ..) hr2 k h5
     ·exact hl k h5) (fun y hy=>hat y (List.mem_cons_of_mem _ hy)) (by
     obtain ⟨y,hy,hy2⟩:=hu
     rcases List.mem_cons.1 hy with rfl | hy
     ·exact absurd hy2 hr
     ·exact ⟨y,hy,hy2⟩)
    exact ⟨x,List.mem_cons_of_mem _ hx,hx2⟩
theorem Zmh {R:List Nat} (hn:Zbv R=true):∀ (us:List Nat) (l:Array Bool),Zbv us=true->(∀ u ∈ us,u ∈ R)->(∀ u ∈ us,l.getD u true=false)->left R (Zbf us l)+us.length=left R l:=by
 intro us
 induction us with
 | nil=>intro l _ _ _;rfl
 | cons u us ih =>
  intro l h1 h2 h3;obtain ⟨n1,n2⟩:=Zbs h1;have h4:=Zjk hn (h2 u (List.mem_cons_self ..)) (h3 u (List.mem_cons_self ..))
  have h5:=ih (l.setIfInBounds u true) n2 (fun x hx=>h2 x (List.mem_cons_of_mem _ hx)) (fun x hx=>by
   rw [Go.getD_set_ne true (fun e:u=x=>n1 (e ▸ hx))]
   exact h3 x (List.mem_cons_of_mem _ hx))
  show left R (Zbf us (l.setIfInBounds u true))+(us.length+1)=_;omega
theorem Zdy:∀ {a b:List Nat},Zbv (a ++ b)=true->Zbv b=true
 | [],_,h=>h
 | _ :: a,_,h=>Zdy (a:=a) (Zbs h).2
theorem Zee:∀ {a b:List Nat},Zbv (a ++ b)=true->Zbv a=true
 | [],_,_=>rfl
 | x :: a,b,h=>by
  obtain ⟨h1,h2⟩:=Zbs (x:=x) (l:=a ++ b) h;simp only [Zbv,Bool.and_eq_true,Bool.not_eq_true'];refine ⟨?_,Zee h2⟩
  cases hc:a.contains x with
  | false=>rfl
  | true=>exact absurd (List.mem_append_left _ (List.contains_iff_mem.1 hc)) h1
theorem Ziy:∀ {a b:List Nat},Zbv (a ++ b)=true->∀ x,x ∈ a->x ∉ b
 | [],_,_,x,hx=>by cases hx
 | y :: a,b,h,x,hx=>by
  obtain ⟨h1,h2⟩:=Zbs (x:=y) (l:=a ++ b) h
  rcases List.mem_cons.1 hx with hx' | hx'
  ·intro hb;exact h1 (List.mem_append_right _ (hx' ▸ hb))
  ·exact Ziy h2 x hx'
theorem Zop {att:Nat->List Nat}:∀ {R:List Nat},Zbv (Za1 R att)=true->∀ r ∈ R,Zbv (r :: att r)=true/\∀ r' ∈ R,r' ≠ r->∀ x ∈ r :: att r,x ∉ r' :: att r'
 | [],_,r,hr=>by cases hr
 | y :: R,h,r,hr=>by
  have e:Za1 (y :: R) att=(y :: att y) ++ Za1 R att:=rfl;rw [e] at h;have h1:=Zee h;have h2:=Zdy h;have h3:=Ziy h
  have hmem:∀ z ∈ R,∀ x ∈ z :: att z,x ∈ Za1 R att:=fun z hz x hx=>List.mem_flatMap.2 ⟨z,hz,hx⟩
  by_cases hry:r=y
  ·subst hry
   refine ⟨h1,fun r' hr' hne x hx hx2=>?_⟩
   rcases List.mem_cons.1 hr' with h4 | h4
   ·exact hne h4
   ·exact h3 x hx (hmem r' h4 x hx2)
  ·have hrR:r ∈ R:=by
     rcases List.mem_cons.1 hr with h4 | h4
     ·exact absurd h4 hry
     ·exact h4
   obtain ⟨k1,k2⟩:=Zop h2 r hrR;refine ⟨k1,fun r' hr' hne x hx hx2=>?_⟩
   by_cases hr'y:r'=y
   ·subst hr'y
    exact h3 x hx2 (hmem r hrR x hx)
   ·rcases List.mem_cons.1 hr' with h4 | h4
    ·exact hr'y h4
    ·exact k2 r' h4 hne x hx hx2
theorem Zub (R:List Nat) (att:Nat->List Nat) (D:List Nat) (hDR:∀ i ∈ D,i ∈ R) (Φ:Nat->Value->World->Prop) {l0:Array Bool} {a0:Act} {w0:World} (hok:Zjg md ops R att l0=true) (hL:∀ u ∈ Za1 R att,u ∉ L)
    (hst:∀ i ∈ Za1 R att,∀ v w w',Below w.heap.size w w'->Φ i v w->Φ i v w') (hS:∀ w',Below w0.heap.size w0 w'->S w') {F:Nat}
    (hop:∀ i ∈ R,∀ (ν:Nat->Value) (w:World),Below w0.heap.size w0 w->(∀ j ∈ Za1 R att,j ∈ Zav md ops i->Φ j (ν (Za3 ops j)) w) ->
     wpOp P ops (OnlyNormal Q) i (fun a' w'=>∃ v,a'=(Zam ((Za1 R att).map (Za3 ops)) a0 ν).put (some (Za3 ops i)) v/\Φ i v w'/\Below w.heap.size w w'/\Zn4 P ops Φ w' (att i) a'/\(i ∈ D->∀ j ∈ D,∀ u,Φ j u w->v ≠ u)) (Zam ((Za1 R att).map (Za3 ops)) a0 ν) w)
    (hfin:∀ (ν:Nat->Value) (w:World),Below w0.heap.size w0 w->(∀ i ∈ Za1 R att,Φ i (ν (Za3 ops i)) w)->(∀ i ∈ D,∀ j ∈ D,i ≠ j->ν (Za3 ops i) ≠ ν (Za3 ops j))->Zaj P md ops (OnlyNormal Q) L S F (Zbf (Za1 R att) l0) (Zam ((Za1 R att).map (Za3 ops)) a0 ν) w) :
    ∀ (n:Nat) (l:Array Bool) (ν:Nat->Value) (w:World),n=left (Za1 R att) l->l.size=l0.size->(∀ k,k ∉ Za1 R att->l.getD k true=l0.getD k true)->(∀ k,l0.getD k false=true->l.getD k false=true) ->
     (∀ r ∈ Za1 R att,l.getD r false=true->∀ p ∈ Zav md ops r,l.getD p false=true) ->
     (∀ r ∈ R,∀ u ∈ att r,(l.getD r true=true->l.getD u false=true)/\(l.getD r true=false->l.getD u true=false))->Below w0.heap.size w0 w->(∀ r ∈ Za1 R att,l.getD r true=true->Φ r (ν (Za3 ops r)) w)->(∀ i ∈ D,∀ j ∈ D,i ≠ j->l.getD i true=true->l.getD j true=true->ν (Za3 ops i) ≠ ν (Za3 ops j)) ->
     Zaj P md ops (OnlyNormal Q) L S (n+F) l (Zam ((Za1 R att).map (Za3 ops)) a0 ν) w:=by
 simp only [Zjg,Bool.and_eq_true,decide_eq_true_eq] at hok;obtain ⟨⟨⟨⟨⟨hto,hou⟩,hnd⟩,hsz0⟩,hato⟩,hns⟩:=hok;rw [List.all_eq_true] at hato;obtain ⟨t1,t2⟩:=Zhg R l0 hto;have hndf:=Zjt hnd
 have hmemR:∀ r ∈ R,r ∈ Za1 R att:=fun r hr=>List.mem_flatMap.2 ⟨r,hr,List.mem_cons_self ..⟩
 have hmemU:∀ r ∈ R,∀ u ∈ att r,u ∈ Za1 R att:=fun r hr u hu=>List.mem_flatMap.2 ⟨r,hr,List.mem_cons_of_mem _ hu⟩
 have hattp:∀ r ∈ R,∀ u ∈ att r,r ∈ Zav md ops u/\(∃ o,ops[u]?=some o):=fun r hr=>by
  have:∀ (us done:List Nat),Zgv md ops l0 r us done=true->∀ u ∈ us,r ∈ Zav md ops u/\(∃ o,ops[u]?=some o):=by
   intro us
   induction us with
   | nil=>intro _ _ u hu;cases hu
   | cons x us ih =>
    intro done h u hu;simp only [Zgv,Bool.and_eq_true] at h
    rcases List.mem_cons.1 hu with rfl | hu
    ·refine ⟨List.contains_iff_mem.1 h.1.1.1.1.2,?_⟩
     cases ho:ops[u]? with
     | none=>have:=h.1.1.1.1.1;rw [ho] at this;cases this
     | some o=>exact ⟨o,rfl⟩
    ·exact ih _ h.2 u hu
  exact this (att r) [] (hato r hr)
 intro n
 induction n using Nat.strongRecOn with
 | _ n ih =>
  intro l ν w hn hsz hK hM hD hA hb hΦ hNE
  have hsize:∀ r ∈ Za1 R att,r < l.size:=fun x hx=>by
   obtain ⟨r,hr,hx2⟩:=List.mem_flatMap.1 hx
   rcases List.mem_cons.1 hx2 with rfl | hx2
   ·obtain ⟨-,o,d,ho,-⟩:=t1 x hr
    have:=(Array.getElem?_eq_some_iff.1 ho).1;omega
   ·obtain ⟨-,o,ho⟩:=hattp r hr x hx2
    have:=(Array.getElem?_eq_some_iff.1 ho).1;omega
  have htf:∀ k,k < l.size->l.getD k true=true->l.getD k false=true:=fun k hk h=>by
   rw [Array.getD_eq_getD_getElem?,Array.getElem?_eq_getElem hk] at h ⊢;exact h
  by_cases hex:∃ r ∈ R,l.getD r true=false
  ·obtain ⟨r,hr,hr1,hr2⟩:=t2 l hsz hM (fun r hr h u hu=>(hA r hr u hu).1 h) hex
   obtain ⟨-,o,d,ho,-⟩:=t1 r hr;have hready:=Zf8 (md:=md) hr1 ho hr2
   obtain ⟨m,rfl⟩:∃ m,n=m+1:=by
    have:=Zjk hndf (hmemR r hr) hr1;exact ⟨left (Za1 R att) (l.setIfInBounds r true),by omega⟩
   rw [Nat.add_right_comm];refine ⟨fun h0=>(by rw [h0] at hready;cases hready),fun i hi=>?_⟩;obtain ⟨hi1,hi2,hi3⟩:=Zjs hi
   have hiF:i ∈ Za1 R att:=by
    apply Classical.byContradiction
    intro hni;unfold Zt3 at hou;rw [List.all_eq_true] at hou;have h1:=hou i (List.mem_range.2 hi2);simp only [Bool.or_eq_true,List.any_eq_true,List.all_eq_true,Bool.and_eq_true,Bool.not_eq_true'] at h1
    rcases h1 with ((h1 | h1) | ⟨p,hp,h2,h3⟩) | h1
    ·exact hni (List.contains_iff_mem.1 h1)
    ·rw [hK i hni,h1] at hi1;cases hi1
    ·have hpR:p ∉ Za1 R att:=fun h=>by rw [List.contains_iff_mem.2 h] at h2;cases h2
     have h4:=hi3 p hp;have h5:=Zdz h4;rw [hK p hpR] at h5
     have hps:p < l.size:=by
      rcases Nat.lt_or_ge p l.size with h' | h'
      ·exact h'
      ·rw [Array.getD_eq_getD_getElem?,Array.getElem?_eq_none h'] at h4;cases h4
     rw [Array.getD_eq_getD_getElem?,Array.getElem?_eq_getElem (by omega)] at h5 h3;simp only [Option.getD_some] at h5 h3;rw [h5] at h3;cases h3
    ·have h2:=Zo2 (md:=md) (ops:=ops) (l:=l) (R:=Za1 R att) hD (Za1 R att).reverse (Zav md ops i) (fun r hr=>List.mem_reverse.1 hr) hi3
     have h3:=Zdz (h2 r (List.contains_iff_mem.1 (h1 r hr)));rw [hr1] at h3;cases h3
   have hiR:i ∈ R:=by
    obtain ⟨r',hr',hx⟩:=List.mem_flatMap.1 hiF
    rcases List.mem_cons.1 hx with rfl | hx
    ·exact hr'
    ·exfalso
     have h1:=Zdz (hi3 r' (hattp r' hr' i hx).1);have h2:=Zdz ((hA r' hr' i hx).1 h1);rw [hi1] at h2;cases h2
   have hdn:Za3 ops i ∈ (Za1 R att).map (Za3 ops):=List.mem_map.2 ⟨i,hiF,rfl⟩;obtain ⟨own1,own2⟩:=Zop hndf i hiR;obtain ⟨ni,nus⟩:=Zbs own1;refine wpOp_mono (fun a' w' h=>?_) (hop i hiR ν w hb fun j hj hp=>hΦ j hj (Zdz (hi3 j hp)));obtain ⟨v,rfl,hv,hb2,htr,hne⟩:=h;have hb3:=hb.trans (hb2.mono hb.size);refine ⟨fun _=>hS _ hb3,?_⟩;rw [Ziq hdn hnd] at htr ⊢;have hset:(l.setIfInBounds i true).getD i false=true:=Zf1 (hsize i hiF)
   have hund:∀ u ∈ att i,(l.setIfInBounds i true).getD u true=false:=fun u hu=>by
    rw [Go.getD_set_ne true (fun e:i=u=>ni (e ▸ hu))];exact (hA i hiR u hu).2 hi1
   have hlt:=Zjk hndf hiF hi1;have hlm:=Zmh hndf (att i) (l.setIfInBounds i true) nus (hmemU i hiR) hund
   have hm:m=(att i).length+left (Za1 R att) (Zbf (att i) (l.setIfInBounds i true)):=by omega
   rw [hm,Nat.add_assoc];refine Zpv (R:=Za1 R att) hns hnd hiF (att i) [] (l.setIfInBounds i true) _ (hato i hiR) (hmemU i hiR) (fun u hu=>hL u (hmemU i hiR u hu)) hund (by simp;omega) nus (fun p hp=>Zak (hM p hp)) hset (fun p hp=>Zak (hi3 p hp)) (fun u hu=>by cases hu) (hS _ hb3) htr (fun ν' k1 k2=>?_)
   have hνi:ν' (Za3 ops i)=v:=by
    rw [k1 _ (fun u hu=>Zeu hnd (hmemU i hiR u hu) hiF (fun e=>ni (e ▸ hu)))];simp only [upd,if_true]
   have hνo:∀ x ∈ Za1 R att,x ≠ i->x ∉ att i->ν' (Za3 ops x)=ν (Za3 ops x):=fun x hx h1 h2=>by
    rw [k1 _ (fun u hu=>Zeu hnd (hmemU i hiR u hu) hx (fun e=>h2 (e ▸ hu)))];simp only [upd,if_neg (Zeu hnd hx hiF h1)]
   refine ih _ (by omega) (Zbf (att i) (l.setIfInBounds i true)) ν' w' rfl (by rw [Zfl];simp;exact hsz) (fun k hk=>?_) (fun k hk=>Zby (Zak (hM k hk))) (fun x hx hxt p hp=>?_) (fun r' hr' u hu=>?_) hb3 (fun x hx hxt=>?_) (fun a ha b hb' hab hat hbt=>?_)
   ·rw [Zb1,if_neg (fun h=>hk (hmemU i hiR k h)),Go.getD_set_ne true (fun e:i=k=>hk (e ▸ hiF))]
    exact hK k hk
   ·rcases Zki hxt with h1 | h1
    ·-- an operation of the train
     have h2:∀ (us done:List Nat),Zgv md ops l0 i us done=true->(∀ u ∈ done,(Zbf (att i) (l.setIfInBounds i true)).getD u false=true)->(∀ u ∈ us,u ∈ att i)->∀ u ∈ us,∀ p ∈ Zav md ops u,(Zbf (att i) (l.setIfInBounds i true)).getD p false=true:=by
      intro us
      induction us with
      | nil=>intro _ _ _ _ u hu;cases hu
      | cons y us ihu =>
       intro done h hd hall u hu p hp;simp only [Zgv,Bool.and_eq_true,List.all_eq_true] at h
       rcases List.mem_cons.1 hu with rfl | hu
       ·have h7:=h.1.1.2 p hp
        simp only [Bool.or_eq_true,beq_iff_eq] at h7
        rcases h7 with ((h7 | h7) | h7) | h7
        ·rw [h7];exact Zby hset
        ·exact hd p (List.contains_iff_mem.1 h7)
        ·exact Zby (Zak (hM p h7))
        ·exact Zby (Zak (hi3 p (List.contains_iff_mem.1 h7)))
       ·refine ihu (y :: done) h.2 (fun z hz=>?_) (fun z hz=>hall z (List.mem_cons_of_mem _ hz)) u hu p hp
        rcases List.mem_cons.1 hz with rfl | hz
        ·exact Zkb (hall z (List.mem_cons_self ..)) (by simp;exact hsize z (hmemU i hiR z (hall z (List.mem_cons_self ..))))
        ·exact hd z hz
     exact h2 (att i) [] (hato i hiR) (fun u hu=>by cases hu) (fun u hu=>hu) x h1 p hp
    ·by_cases hxi:i=x
     ·subst hxi;exact Zby (Zak (hi3 p hp))
     ·rw [Go.getD_set_ne false hxi] at h1
      exact Zby (Zak (hD x hx h1 p hp))
   ·by_cases hri:r'=i
    ·subst hri
     refine ⟨fun _=>Zkb hu (by simp;exact hsize u (hmemU r' hr' u hu)),fun h=>?_⟩;have h1:=Zf0 h;rw [Zdz hset] at h1;cases h1
    ·have hd1:=own2 r' hr' hri
     have hu1:u ∉ att i:=fun h=>hd1 u (List.mem_cons_of_mem _ h) (List.mem_cons_of_mem _ hu)
     have hu2:i ≠ u:=fun h=>hd1 i (List.mem_cons_self ..) (h ▸ List.mem_cons_of_mem _ hu)
     have hr1':r' ∉ att i:=fun h=>hd1 r' (List.mem_cons_of_mem _ h) (List.mem_cons_self ..)
     refine ⟨fun h=>?_,fun h=>?_⟩
     ·rw [Zb1,if_neg hr1',Go.getD_set_ne true (Ne.symm hri)] at h
      exact Zby (Zak ((hA r' hr' u hu).1 h))
     ·rw [Zb1,if_neg hr1',Go.getD_set_ne true (Ne.symm hri)] at h
      rw [Zb1,if_neg hu1,Go.getD_set_ne true hu2];exact (hA r' hr' u hu).2 h
   ·by_cases hxi:x=i
    ·subst hxi;rw [hνi];exact hv
    ·by_cases hxa:x ∈ att i
     ·exact k2 x hxa
     ·rw [hνo x hx hxi hxa]
      rw [Zb1,if_neg hxa,Go.getD_set_ne true (Ne.symm hxi)] at hxt;exact hst x hx _ _ _ hb2 (hΦ x hx hxt)
   ·have hDa:∀ x ∈ D,x ∉ att i:=fun x hx h=>by
      by_cases hxi:x=i
      ·exact ni (hxi ▸ h)
      ·exact own2 x (hDR x hx) hxi x (List.mem_cons_of_mem _ h) (List.mem_cons_self ..)
    have hold:∀ x ∈ D,x ≠ i->(Zbf (att i) (l.setIfInBounds i true)).getD x true=true->ν' (Za3 ops x)=ν (Za3 ops x)/\l.getD x true=true:=fun x hx hxi h=>by
     rw [Zb1,if_neg (hDa x hx),Go.getD_set_ne true (Ne.symm hxi)] at h;exact ⟨hνo x (hmemR x (hDR x hx)) hxi (hDa x hx),h⟩
    by_cases hai:a=i
    ·have hbi:b ≠ i:=fun h=>hab (hai.trans h.symm)
     obtain ⟨e1,e2⟩:=hold b hb' hbi hbt;rw [hai,hνi,e1];exact hne (hai ▸ ha) b hb' _ (hΦ b (hmemR b (hDR b hb')) e2)
    ·obtain ⟨e1,e2⟩:=hold a ha hai hat
     by_cases hbi:b=i
     ·rw [hbi,hνi,e1]
      exact fun h=>hne (hbi ▸ hb') a ha _ (hΦ a (hmemR a (hDR a ha)) e2) h.symm
     ·obtain ⟨e3,e4⟩:=hold b hb' hbi hbt
      rw [e1,e3];exact hNE a ha b hb' hab e2 e4
  ·have hall:∀ x ∈ Za1 R att,l.getD x true=true:=fun x hx=>by
     obtain ⟨r,hr,hx2⟩:=List.mem_flatMap.1 hx
     have h1:l.getD r true=true:=by
      cases h:l.getD r true with
      | true=>rfl
      | false=>exact absurd ⟨r,hr,h⟩ hex
     rcases List.mem_cons.1 hx2 with rfl | hx2
     ·exact h1
     ·exact Zdz ((hA r hr x hx2).1 h1)
   have h0:left (Za1 R att) l=0:=by
    unfold left;rw [List.length_eq_zero_iff,List.filter_eq_nil_iff];intro r hr;rw [hall r hr];simp
   have:l=Zbf (Za1 R att) l0:=by
    refine Zpd (by rw [Zfl];exact hsz) fun k=>?_
    rw [Zb1]
    by_cases hk:k ∈ Za1 R att
    ·rw [if_pos hk];exact hall k hk
    ·rw [if_neg hk];exact hK k hk
   subst this;rw [hn,h0,Nat.zero_add];exact hfin ν w hb (fun i hi=>hΦ i hi (hall i hi)) (fun i hi j hj hij=>hNE i hi j hj hij (hall i (hmemR i (hDR i hi))) (hall j (hmemR j (hDR j hj))))
theorem Zob (DP:List (Nat × Nat)) (RP:List (Nat × Nat)) (att:Nat->List Nat) (FP:List (Nat × Nat)) (Φ:Nat->Value->World->Prop) (F:Nat) {l0:Array Bool} {a0:Act} {w0:World}
    (hok:(Zjg md ops (RP.map (·.1)) att l0 && (Za1 (RP.map (·.1)) att == FP.map (·.1)) && FP.all (fun p=>Za3 ops p.1 == p.2) && RP.all (fun p=>Za3 ops p.1 == p.2) && FP.all (fun p=>!L.contains p.1) && DP.all (fun p=>RP.contains p))=true)
    (hst:∀ p ∈ FP,∀ v w w',Below w.heap.size w w'->Φ p.1 v w->Φ p.1 v w') (hS:∀ w',Below w0.heap.size w0 w'->S w')
    (hop:∀ p ∈ RP,∀ (ν:Nat->Value) (w:World),Below w0.heap.size w0 w->(∀ q ∈ FP,(Zav md ops p.1).contains q.1=true->Φ q.1 (ν q.2) w) ->
     wpOp P ops (OnlyNormal Q) p.1 (fun a' w'=>∃ v,a'=(Zam (FP.map (·.2)) a0 ν).put (some p.2) v/\Φ p.1 v w'/\Below w.heap.size w w'/\Zn4 P ops Φ w' (att p.1) a'/\(p ∈ DP->∀ q ∈ DP,∀ u,Φ q.1 u w->v ≠ u)) (Zam (FP.map (·.2)) a0 ν) w)
    (hfin:∀ (ν:Nat->Value) (w:World),Below w0.heap.size w0 w->(∀ p ∈ FP,Φ p.1 (ν p.2) w)->(∀ p ∈ DP,∀ q ∈ DP,p ≠ q->ν p.2 ≠ ν q.2)->Zaj P md ops (OnlyNormal Q) L S F (Zbf (FP.map (·.1)) l0) (Zam (FP.map (·.2)) a0 ν) w) :
    Zaj P md ops (OnlyNormal Q) L S (FP.length+F) l0 a0 w0:=by
 simp only [Bool.and_eq_true,beq_iff_eq] at hok;obtain ⟨⟨⟨⟨⟨h1,h2⟩,h3⟩,h4⟩,h5⟩,h6⟩:=hok;rw [List.all_eq_true] at h6;have hD:=Zoq (ops:=ops) FP h3;rw [<- h2] at hD;rw [List.all_eq_true] at h3 h4 h5
 have hmem:∀ i,i ∈ Za1 (RP.map (·.1)) att->∃ p ∈ FP,p.1=i:=fun i hi=>by
  rw [h2] at hi;exact List.mem_map.1 hi
 have hall:=h1;simp only [Zjg,Bool.and_eq_true,decide_eq_true_eq] at h1;obtain ⟨⟨⟨⟨⟨hto,-⟩,hnd⟩,hsz0⟩,hato⟩,-⟩:=h1;obtain ⟨t1,-⟩:=Zhg _ l0 hto
 have hund:∀ i ∈ Za1 (RP.map (·.1)) att,l0.getD i true=false:=fun x hx=>by
  obtain ⟨r,hr,hx2⟩:=List.mem_flatMap.1 hx
  rcases List.mem_cons.1 hx2 with rfl | hx2
  ·exact (t1 x hr).1
  ·rw [List.all_eq_true] at hato
   have:∀ (us done:List Nat),Zgv md ops l0 r us done=true->∀ u ∈ us,l0.getD u true=false:=by
    intro us
    induction us with
    | nil=>intro _ _ u hu;cases hu
    | cons y us ih =>
     intro done h u hu;simp only [Zgv,Bool.and_eq_true,Bool.not_eq_true'] at h
     rcases List.mem_cons.1 hu with rfl | hu
     ·exact h.1.1.1.2
     ·exact ih _ h.2 u hu
   exact this _ _ (hato r hr) x hx2
 have hlen:left (Za1 (RP.map (·.1)) att) l0=FP.length:=by
  unfold left;rw [List.filter_eq_self.2 (fun r hr=>by rw [hund r hr];rfl),h2,List.length_map]
 have h:=Zub (P:=P) (ops:=ops) (Q:=Q) (md:=md) (L:=L) (S:=S) (RP.map (·.1)) att (DP.map (·.1)) (fun i hi=>by
  obtain ⟨p,hp,rfl⟩:=List.mem_map.1 hi
  exact List.mem_map.2 ⟨p,List.contains_iff_mem.1 (h6 p hp),rfl⟩) Φ (F:=F) (a0:=a0) (w0:=w0) hall (fun u hu=>by
  obtain ⟨p,hp,rfl⟩:=hmem u hu;have:=h5 p hp;intro hc;rw [List.contains_iff_mem.2 hc] at this
  cases this) (fun i hi=>by
  obtain ⟨p,hp,rfl⟩:=hmem i hi
  exact hst p hp) hS (fun i hi ν w hb hP=>by
  obtain ⟨p,hp,rfl⟩:=List.mem_map.1 hi
  have:=hop p hp ν w hb (fun q hq hc=>by
   have hq2:=hP q.1 (by rw [h2];exact List.mem_map.2 ⟨q,hq,rfl⟩) (List.contains_iff_mem.1 hc);have e:=h3 q hq;simp only [beq_iff_eq] at e;rw [e] at hq2
   exact hq2)
  have e:=h4 p hp;simp only [beq_iff_eq] at e;rw [hD,e];refine wpOp_mono (fun a' w' h=>?_) this;obtain ⟨v,k1,k2,k3,k4,k5⟩:=h;refine ⟨v,k1,k2,k3,k4,fun hi j hj u hu=>?_⟩;obtain ⟨p',hp',hpe⟩:=List.mem_map.1 hi;obtain ⟨q',hq',rfl⟩:=List.mem_map.1 hj;have e1:=h4 p' (List.contains_iff_mem.1 (h6 p' hp'));simp only [beq_iff_eq] at e1;have:p'=p:=Prod.ext hpe (by rw [<- e1,<- e,hpe])
  exact k5 (this ▸ hp') q' hq' u hu) (fun ν w hb hf hne=>by
  rw [hD,h2]
  exact hfin ν w hb (fun p hp=>by
   have hq2:=hf p.1 (by rw [h2];exact List.mem_map.2 ⟨p,hp,rfl⟩);have e:=h3 p hp;simp only [beq_iff_eq] at e;rw [e] at hq2
   exact hq2) (fun p hp q hq hpq=>by
   have e1:=h4 p (List.contains_iff_mem.1 (h6 p hp));have e2:=h4 q (List.contains_iff_mem.1 (h6 q hq));simp only [beq_iff_eq] at e1 e2;have:=hne p.1 (List.mem_map.2 ⟨p,hp,rfl⟩) q.1 (List.mem_map.2 ⟨q,hq,rfl⟩) (fun h=>hpq (Prod.ext h (by rw [<- e1,<- e2,h])));rw [e1,e2] at this
   exact this)) FP.length l0 (fun d=>a0.tmps.getD d undef) w0 hlen.symm rfl (fun _ _=>rfl) (fun _ h=>h)
  (fun r hr h=>by have h1:=Zdz h;rw [hund r hr] at h1;cases h1)
  (fun r hr u hu=>⟨fun h=>(by rw [hund r (List.mem_flatMap.2 ⟨r,hr,List.mem_cons_self ..⟩)] at h;cases h),fun _=>hund u (List.mem_flatMap.2 ⟨r,hr,List.mem_cons_of_mem _ hu⟩)⟩)
  (Below.refl _ _) (fun r hr h=>by rw [hund r hr] at h;cases h)
  (fun i hi j hj _ h _=>by
   obtain ⟨p,hp,rfl⟩:=List.mem_map.1 hi;rw [hund p.1 (List.mem_flatMap.2 ⟨p.1,List.mem_map.2 ⟨p,List.contains_iff_mem.1 (h6 p hp),rfl⟩,List.mem_cons_self ..⟩)] at h
   cases h)
 rw [Zo5] at h;exact h
theorem Zbi (RP:List (Nat × Nat)) (att:Nat->List Nat) (FP:List (Nat × Nat)) (Φ:Nat->Value->World->Prop) (F:Nat) {l0:Array Bool} {a0:Act} {w0:World}
    (hok:(Zjg md ops (RP.map (·.1)) att l0 && (Za1 (RP.map (·.1)) att == FP.map (·.1)) && FP.all (fun p=>Za3 ops p.1 == p.2) && RP.all (fun p=>Za3 ops p.1 == p.2) && FP.all (fun p=>!L.contains p.1))=true)
    (hst:∀ p ∈ FP,∀ v w w',Below w.heap.size w w'->Φ p.1 v w->Φ p.1 v w') (hS:∀ w',Below w0.heap.size w0 w'->S w')
    (hop:∀ p ∈ RP,∀ (ν:Nat->Value) (w:World),Below w0.heap.size w0 w->(∀ q ∈ FP,(Zav md ops p.1).contains q.1=true->Φ q.1 (ν q.2) w) ->
     wpOp P ops (OnlyNormal Q) p.1 (fun a' w'=>∃ v,a'=(Zam (FP.map (·.2)) a0 ν).put (some p.2) v/\Φ p.1 v w'/\Below w.heap.size w w'/\Zn4 P ops Φ w' (att p.1) a') (Zam (FP.map (·.2)) a0 ν) w)
    (hfin:∀ (ν:Nat->Value) (w:World),Below w0.heap.size w0 w->(∀ p ∈ FP,Φ p.1 (ν p.2) w)->Zaj P md ops (OnlyNormal Q) L S F (Zbf (FP.map (·.1)) l0) (Zam (FP.map (·.2)) a0 ν) w) :
    Zaj P md ops (OnlyNormal Q) L S (FP.length+F) l0 a0 w0:=
 Zob [] RP att FP Φ F (by rw [hok];rfl) hst hS (fun p hp ν w hb hP=>wpOp_mono (fun a' w' h=>by
  obtain ⟨v,k1,k2,k3,k4⟩:=h
  exact ⟨v,k1,k2,k3,k4,fun h=>by cases h⟩) (hop p hp ν w hb hP)) (fun ν w hb hf _=>hfin ν w hb hf)
end
end Go.Proofs.YtaioanjcjijckaaGreat
