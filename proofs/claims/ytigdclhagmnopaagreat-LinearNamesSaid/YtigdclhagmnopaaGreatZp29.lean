/- Package linear: wider. The reference of linear: echelon. -/
import Derived.Lib.SlBuf
import Derived.Test.YtigdclhagmnopaaGreatZp27
set_option maxRecDepth 100000
set_option maxHeartbeats 8000000
set_option linter.unusedSimpArgs false
set_option linter.unusedVariables false
namespace Go.Proofs.YtigdclhagmnopaaGreat
open Go.RowKit
attribute [local go_sem] Zh
theorem Zpf (k : Nat) : List.replicate k (Value.slice none 0 0) = Zao (List.replicate k Zam):=by
 rw [Zb8,List.map_replicate];rfl
theorem Zj7 (k : Nat) : madeCells (Value.agg #[.bool false,.slice none 0 0,.bool false,.slice none 0 0]).cells (k * 4) = Zx (List.replicate k Zak):=by
 apply Array.toList_inj.1
 show (madeCells #[.bool false,.slice none 0 0,.bool false,.slice none 0 0] (k * 4)).toList = Zo (List.replicate k Zak)
 apply List.ext_getElem?
 intro i
 by_cases h : i < k * 4
 ·have he : (List.replicate k Zak)[i / 4]? = some Zak:=by rw [List.getElem?_replicate,if_pos (by omega)]
  have hc:=Zej he
  have h4 : i % 4 = 0 \/ i % 4 = 1 \/ i % 4 = 2 \/ i % 4 = 3:=by omega
  have hm : (madeCells #[.bool false,.slice none 0 0,.bool false,.slice none 0 0] (k * 4)).toList[i]? = some ((#[.bool false,.slice none 0 0,.bool false,.slice none 0 0] : Array Value)[i % 4]?.getD default):=by
   unfold madeCells
   simp [h]
  rw [hm]
  rcases h4 with h2 | h2 | h2 | h2
  ·rw [show i / 4 * 4 = i by omega] at hc;rw [hc.1,h2];rfl
  ·rw [show i / 4 * 4 + 1 = i by omega] at hc;rw [hc.2.1,h2];rfl
  ·rw [show i / 4 * 4 + 2 = i by omega] at hc;rw [hc.2.2.1,h2];rfl
  ·rw [show i / 4 * 4 + 3 = i by omega] at hc;rw [hc.2.2.2,h2];rfl
 ·have a1 : (Zo (List.replicate k Zak))[i]? = none:=List.getElem?_eq_none (by rw [Zr];simp;omega)
  have a2 : (madeCells #[.bool false,.slice none 0 0,.bool false,.slice none 0 0] (k * 4)).toList[i]? = none:=List.getElem?_eq_none (by unfold madeCells;simp;omega);rw [a1,a2]
theorem Zqt {P : Program} (t e : TypeId) {i : TypeInfo} (ht : P.underlying t = some (.slice e)) (hi : P.info? e = some i) (hz : i.zero = some (.agg #[.bool false,.slice none 0 0,.bool false,.slice none 0 0])) (hs : i.size = 4) (hb : i.bytes = 64)
    (x : Int) (n : Nat) (hx : x = n) (hn : n <= 1000000000000) (W : World) :
    (Instr.makeSlice t (.int .i64 x) (.int .i64 x)).run P W = .ok (.slice (some ⟨W.heap.size,0,none⟩) n n) (W.alloc (.cells (Zx (List.replicate n Zak)) e)):=by
 subst hx;have hr:=run_make (P:=P) W t e i _ ht hi hz .i64 .i64 n n (by omega) (by omega) (by rw [hb];omega) (by omega);simp only [Int.toNat_natCast] at hr;rw [hr,hs,Zj7]
theorem Zij {P : Program} (t e : TypeId) {i : TypeInfo} (ht : P.underlying t = some (.slice e)) (hi : P.info? e = some i) (hz : i.zero = some (.slice none 0 0)) (hs : i.size = 1) (hb : i.bytes = 24)
    (x : Int) (n : Nat) (hx : x = n) (hn : n <= 1000000000000) (W : World) :
    (Instr.makeSlice t (.int .i64 x) (.int .i64 x)).run P W = .ok (.slice (some ⟨W.heap.size,0,none⟩) n n) (W.alloc (.cells (Z2 (List.replicate n Zam)) e)):=by
 subst hx;have hr:=run_make (P:=P) W t e i _ ht hi hz .i64 .i64 n n (by omega) (by omega) (by rw [hb];omega) (by omega);simp only [Int.toNat_natCast] at hr;rw [hr,hs,Nat.mul_one]
 have : madeCells (Value.slice none 0 0).cells n = Z2 (List.replicate n Zam):=by
  apply Array.toList_inj.1
  show (madeCells #[.slice none 0 0] n).toList = Zao (List.replicate n Zam);rw [<- Zpf]
  apply List.ext_getElem?
  intro j;unfold madeCells
  by_cases h : j < n
  ·simp [h,Nat.mod_one]
  ·simp [h]
 rw [this]
section
variable {P : Program} (w : World)
theorem Zl5 (dT sT ty elem : TypeId) (i : TypeInfo) (g o dLen dCap : Nat) (a : Addr) (sLen sCap : Nat) (cur : Array Value) (t : TypeId) (cs : List Value)
    (hu : P.underlying dT = some (.slice elem)) (hi : P.info? elem = some i) (hg : w.heap[g]? = some (.cells cur t (0,0))) (hn : cs.length = Nat.min sLen dLen * i.size)
    (hsrc : ∀ j v,cs[j]? = some v -> w.cell? (a.add j) = some v) (hfit : o + cs.length <= cur.size) (h1 : ∀ v ∈ cs,v.oneCell' = true) :
    (Builtin.copy_ #[dT,sT] ty #[.slice (some ⟨g,o,none⟩) dLen dCap,.slice (some a) sLen sCap]).run P w =
     .ok (goInt (Nat.min sLen dLen)) (w.setRow g (cur.toList.take o ++ cs ++ cur.toList.drop (o + cs.length)).toArray):=by
 have hl:=run_loadCells_list (P:=P) w a cs hsrc;have hst:=run_storeCells_at P g o t cs 0 cur w hg (by simpa using hfit) h1
 simp [Builtin.copy_,run_underlying hu,Builtin.lenOf,Builtin.firstCells,sizeOf,typeInfo,hi,<- hn,hl,hst]
theorem Zhf (t ty e : TypeId) (i : TypeInfo) (hu : P.underlying t = some (.slice e)) (hi : P.info? e = some i) (hs : i.size = 4) {tF : TypeId} {g k d dc : Nat} {es : List FE} (hb : Blk w g tF (Zx es))
    (B : Nat) (A : Option Addr) (m c : Nat) (fs : List FE) (hr : Reads w B 4 A m (Zo fs)) (hm : fs.length = m) (hm0 : 0 < m) (hd : m <= d) (hk : k + m <= es.length) :
    (Builtin.copy_ #[t,t] ty #[.slice (some ⟨g,k * 4,none⟩) d dc,.slice A m c]).run P w = .ok (goInt m) (w.setRow g (Zx (es.take k ++ fs ++ es.drop (k + m)))):=by
 obtain ⟨ad,rfl,_,hc⟩:=hr.2 hm0
 have hl : (Zo fs).length = m * 4:=by rw [Zr,hm]
 have:=Zl5 (P:=P) w t t ty e i g (k * 4) d dc ad m c _ tF (Zo fs) hu hi hb (by rw [hl,hs,show Nat.min m d = m from Nat.min_eq_left hd]) hc
  (by rw [hl];show k * 4 + m * 4 <= (Zx es).size;unfold Zx;simp only [List.size_toArray];rw [Zr];omega) (Zhz fs)
 rw [this,show Nat.min m d = m from Nat.min_eq_left hd]
 congr 2
 unfold Zx
 have e1 : Zo (es.take k) = (Zo es).take (k * 4):=by
  have h1 : Zo es = Zo (es.take k) ++ Zo (es.drop k):=by rw [<- Zah,List.take_append_drop]
  have h2 : (Zo (es.take k)).length = k * 4:=by rw [Zr,List.length_take,Nat.min_eq_left (by omega)]
  rw [h1,<- h2,List.take_left]
 have e2 : Zo (es.drop (k + m)) = (Zo es).drop (k * 4 + m * 4):=by
  have h1 : Zo es = Zo (es.take (k + m)) ++ Zo (es.drop (k + m)):=by rw [<- Zah,List.take_append_drop]
  have h2 : (Zo (es.take (k + m))).length = k * 4 + m * 4:=by rw [Zr,List.length_take,Nat.min_eq_left (by omega)];omega
  rw [h1,<- h2,List.drop_left]
 rw [hl,Zah,Zah,e1,e2]
end
theorem Kept.setRow {G : Nat -> Prop} {w0 w : World} (h : Kept G w0 w) {g : Nat} (hg : G g \/ w0.heap.size <= g) (cs : Array Value) : Kept G w0 (w.setRow g cs):=
 ⟨h.os,h.tape,h.output,by simp [World.setRow];exact h.size,fun k hk hG=>(setRow_other w g k cs (by rcases hg with hg | hg;exact fun e=>hG (e ▸ hg);omega)).trans (h.block k hk hG)⟩
theorem Zlv {w : World} {g : Nat} {t : TypeId} {cs cs' : Array Value} (h : Blk w g t cs) : Blk (w.setRow g cs') g t cs':=setRow_heap w g _ _ t _ h
theorem Zlg {w : World} {g k : Nat} {t : TypeId} {cs cs' : Array Value} (h : Blk w k t cs) (hne : k ≠ g) : Blk (w.setRow g cs') k t cs:=(setRow_other w g k _ hne).trans h
theorem FL.readsK {w : World} {A : Option Addr} {n c : Nat} {qs : List Rat} (h : FL w A n c qs) {go : Nat} {t : TypeId} {rs : List RS} (hb : Blk w go t (Z2 rs)) :
    ∃ fs : List FE,fs.length = n /\ fs.map FE.q = qs /\ ∀ w',Kept (fun k=>k = go) w w' -> Reads w' w'.heap.size 4 A n (Zo fs) /\ ∀ e ∈ fs,e.in_ w':=by
 obtain ⟨es,h1,h2,h3,h4,h5,h6⟩:=h;refine ⟨es,h1,h5,fun w' hk=>?_⟩
 have hG : ∀ k,k = go -> ∃ t cs,Blk w k t cs /\ NoLimb cs:=fun k hk=>⟨t,Z2 rs,by rw [hk];exact hb,Zbb _⟩
 refine ⟨⟨by rw [Zr,h1],fun hn=>?_⟩,fun e he=>⟨hk.wd (h4 e he).1 hG,hk.wd (h4 e he).2 hG⟩⟩;obtain ⟨g,o,e1,hc⟩:=h6 hn
 have hne : g ≠ go:=fun e=>by
  have h0:=(hc 0 es[0] (List.getElem?_eq_getElem (by omega))).1;rw [e,hb.cell] at h0;unfold Z2 at h0;rw [Zb8] at h0;simp only [List.getElem?_toArray,List.getElem?_map] at h0
  cases hx : rs[o + 0 * 4]? with
  | none=>rw [hx] at h0;cases h0
  | some r=>rw [hx] at h0;cases h0
 have hcell : ∀ (i : Nat) (v : Value),w.cell? ⟨g,i,none⟩ = some v -> w'.cell? ⟨g,i,none⟩ = some v:=fun i v hv=>by
  rw [<- hv];exact World.cell?_of_block (hk.block g (Zp hv) hne)
 refine ⟨⟨g,o,none⟩,e1,?_,fun j u hu=>?_⟩
 ·have:=(hc 0 es[0] (List.getElem?_eq_getElem (by omega))).1
  exact Nat.lt_of_lt_of_le (Zp this) hk.size
 ·rw [Zh]
  have hj : j < es.length * 4:=by
   have:=(List.getElem?_eq_some_iff.1 hu).1
   rwa [Zr] at this
  have he:=List.getElem?_eq_getElem (show j / 4 < es.length by omega);have hg:=Zej he;have hm:=hc (j / 4) _ he
  have h4 : j % 4 = 0 \/ j % 4 = 1 \/ j % 4 = 2 \/ j % 4 = 3:=by omega
  rcases h4 with h2 | h2 | h2 | h2
  ·rw [show j / 4 * 4 = j by omega] at hg hm;rw [hg.1] at hu;cases hu;exact hcell _ _ hm.1
  ·rw [show j / 4 * 4 + 1 = j by omega] at hg hm;rw [hg.2.1] at hu;cases hu;exact hcell _ _ hm.2.1
  ·rw [show j / 4 * 4 + 2 = j by omega] at hg hm;rw [hg.2.2.1] at hu;cases hu;exact hcell _ _ hm.2.2.1
  ·rw [show j / 4 * 4 + 3 = j by omega] at hg hm;rw [hg.2.2.2] at hu;cases hu;exact hcell _ _ hm.2.2.2
theorem MatB.mfl {tS tF : TypeId} {w : World} {go n c : Nat} {L : List RF} (h : MatB tS tF w go L) (hl : L.length = n) (hc : n <= c) (hm : c <= maxLen) : MFL w (some ⟨go,0,none⟩) n c (L.map RF.q):=by
 refine ⟨by rw [List.length_map,hl],hc,hm,fun _=>⟨go,0,rfl,fun k q hq=>?_⟩⟩;rw [List.getElem?_map] at hq;obtain ⟨r,hr,rfl⟩:=Option.map_eq_some_iff.1 hq;have h1:=(h.cell hr).1;obtain ⟨h2,h3,h4⟩:=h.row hr;exact ⟨_,_,_,by rw [Nat.zero_add];exact h1,h2.fl h3 h4⟩
theorem Zme (F : FuncId) (cap : Value) (A : Option Addr) (n c m s : Nat) (Q : List (List Rat)) (S : Nat -> List Rat) (w : World) (h : MFL w A n c Q) (hn9 : n <= 900) (hm : ∀ i,i < n -> (Q[i]?.getD []).length = m) (hm0 : 0 < m) (hm9 : m <= 900) (hs0 : 0 < s) (hs9 : s <= 900) (hS : ∀ i,i < n -> (S i).length = s)
    (hcf : ∀ (x : Value) (W : World),(callFunc F #[x,cap]).run Tryz.prog W = .ok (.enter F #[x,cap]) W)
    (hF : ∀ (W : World) (i : Nat),Below w.heap.size w W -> i < n -> Calls Tryz.prog F #[.int .i64 i,cap] W fun e W'=>∃ A c,e = .returned (.slice A s c) /\ Below W.heap.size W W' /\ FL W' A s c (S i)) :
    Calls Tryz.prog 76 #[.slice A n c,.func (.func F) #[] #[cap]] w fun e w'=>∃ go L,e = .returned (.slice (some ⟨go,0,none⟩) n n) /\ Below w.heap.size w w' /\ w.heap.size <= go /\ L.length = n /\ MatB 40 45 w' go L /\ L.map RF.q = (List.range n).map fun i=>Q[i]?.getD [] ++ S i:=by
 obtain ⟨iF,hi,hz0,hz1,hz2⟩:=info_parts Zd5;obtain ⟨iS,ki,kz0,kz1,kz2⟩:=info_parts Zha;have hl:=Za h.1;have hnc:=h.2.1;have hcm:=h.2.2.1;unfold maxLen at hcm
 have hne : (40 : TypeId) ≠ 45:=by decide
 replace hm:=Za hm;replace h:=Za h;replace hS:=Za hS;replace hF:=Za hF;obtain ⟨W0,hW0⟩ : ∃ X,w.alloc (.cells (Z2 (List.replicate n Zam)) 40) = X:=⟨_,rfl⟩;obtain ⟨go,hgo⟩ : ∃ g,w.heap.size = g:=⟨_,rfl⟩;have q0 : Hid (Blk W0 go 40 (Z2 (List.replicate n Zam))):=Za (by rw [<- hW0,<- hgo];exact Blk.new _ _ _);have hB0 : Hid (Below w.heap.size w W0):=Za (by rw [<- hW0];exact (Below.refl _ _).alloc (Nat.le_refl _) _);have s0 : Hid (W0.heap.size = go + 1):=Za (by rw [<- hW0,<- hgo];simp);have hmk:=Zij (P:=Tryz.prog) 22 40 Tryz.underlying22 ki kz0 kz1 kz2 (n : Int) n rfl (by omega);go_enter Tryz.func76,Tryz.ntmps76;go_wp2_with fail;(try rw [hW0]);(try rw [hgo]);replace hgo:=Za hgo;clear hW0 hmk
 go_loopg [14] n (fun k iv wr=>∃ (i : Nat) (L : List RF),i + k = n /\ iv = .int .i64 i /\ Hid (L.length = i) /\ Blk wr go 40 (Z2 (L.map RF.rs ++ List.replicate (n - i) Zam)) /\ Hid (∀ r ∈ L,(FOwn 45 wr r.g r.q /\ r.q.length <= r.c /\ r.c <= maxLen) /\ W0.heap.size <= r.g) /\ Hid ((L.map RF.g).Nodup) /\ Hid (L.map RF.q = (List.range i).map fun i=>Q[i]?.getD [] ++ S i) /\ Kept (fun k=>k = go) W0 wr)
 case atStart=>exact ⟨0,[],by omega,rfl,Za rfl,q0.out,Za (fun r hr=>(by cases hr)),Za List.nodup_nil,Za rfl,Kept.refl _ _⟩
 case round =>
  obtain ⟨i,L,hik,rfl,hLl,hbo,hrows,hnd,hLq,hK⟩:=hrel;have hBx : Below w.heap.size w wr:=hB0.out.trans (hK.to_below (fun k hk=>by rw [hk,hgo.out];exact Nat.le_refl _) hB0.out.size)
  cases gk with
  | zero =>
   obtain rfl : i = n:=by omega
   have t1 : decide ((i : Int) < (i : Int)) = false:=by simp
   replace hbo:=Za hbo;go_wp2_with fail;go_ret;refine ⟨go,L,rfl,hBx,by rw [hgo.out];exact Nat.le_refl _,hLl.out,⟨⟨_,hbo.out⟩,fun r hr=>(hrows.out r hr).1,?_⟩,hLq.out⟩;refine List.nodup_cons.2 ⟨fun hmm=>?_,hnd.out⟩;obtain ⟨r,hr,e⟩:=List.mem_map.1 hmm;have:=(hrows.out r hr).2;have:=s0.out;omega
  | succ j =>
   obtain rfl : j = n - (i + 1):=by omega
   have hin : i < n:=by omega
   have t1 : decide ((i : Int) < (n : Int)) = true:=decide_eq_true (by omega)
   have bi : (i : Int) < (n : Int):=by omega
   obtain ⟨ga,oa,A1,n1,c1,rfl,k0,hF0⟩:=(h.out.below hBx).at_ hin
   have hn1 : n1 = m:=by rw [<- hF0.len];exact hm.out i hin
   subst hn1;replace hF0:=Za hF0;replace hbo:=Za hbo;go_wp2_with fail;refine (hF.out wr i hBx hin).mono ?_;rintro e w1 ⟨As,cs,rfl,hb1,hFS⟩;have hbo1:=Zb hb1 hbo.out;obtain ⟨fs,hfl,hfq,hRf⟩:=(hF0.out.below hb1).readsK hbo1;obtain ⟨gs,hgl,hgq,hRg⟩:=hFS.readsK hbo1;obtain ⟨gN,hgN⟩ : ∃ g,w1.heap.size = g:=⟨_,rfl⟩;obtain ⟨W2,hW2⟩ : ∃ X,w1.alloc (.cells (Zx (List.replicate (n1 + s) Zak)) 45) = X:=⟨_,rfl⟩
   have hb2 : Below w1.heap.size w1 W2:=by rw [<- hW2];exact (Below.refl _ _).alloc (Nat.le_refl _) _
   have hbN : Blk W2 gN 45 (Zx (List.replicate (n1 + s) Zak)):=by rw [<- hW2,<- hgN];exact Blk.new _ _ _
   have hbo2:=Zb hb2 hbo1;have hgo1:=hbo1.lt
   have hgogN : go < gN:=by omega
   have x0:=hbo2.cell i;have x1:=hbo2.frozen i;rw [show (Z2 (L.map RF.rs ++ List.replicate (n - i) Zam))[i]? = some (.slice none 0 0) from Zbi (e:=Zam) (by rw [List.getElem?_append_right (by rw [List.length_map,hLl.out];exact Nat.le_refl _),List.length_map,hLl.out,Nat.sub_self,List.getElem?_replicate,if_pos (by omega)])] at x0
   have hqs : (Q[i]?.getD [] ++ S i).length = n1 + s:=by rw [List.length_append,hm.out i hin,hS.out i hin]
   obtain ⟨W3,hW3⟩ : ∃ X,W2.setCell ⟨go,i,none⟩ (.slice (some ⟨gN,0,none⟩) (n1 + s) (n1 + s)) = X:=⟨_,rfl⟩
   have hset : (L.map RF.rs ++ List.replicate (n - i) Zam).set i ⟨some ⟨gN,0,none⟩,n1 + s,n1 + s⟩ = (L ++ [RF.mk gN (n1 + s) (Q[i]?.getD [] ++ S i)]).map RF.rs ++ List.replicate (n - (i + 1)) Zam:=by
    rw [List.set_append_right _ _ (by rw [List.length_map,hLl.out];exact Nat.le_refl _),List.length_map,hLl.out,Nat.sub_self,show n - i = n - (i + 1) + 1 by omega,List.replicate_succ,List.set_cons_zero,List.map_append,List.append_assoc];simp only [List.map_cons,List.map_nil,RF.rs,hqs]
    rfl
   have hbo3 : Blk W3 go 40 (Z2 ((L ++ [RF.mk gN (n1 + s) (Q[i]?.getD [] ++ S i)]).map RF.rs ++ List.replicate (n - (i + 1)) Zam)):=by
    have:=hbo2.set_ i (.slice (some ⟨gN,0,none⟩) (n1 + s) (n1 + s));rw [Zdv ⟨some ⟨gN,0,none⟩,n1 + s,n1 + s⟩,hW3,hset] at this;exact this
   have hbN3 : Blk W3 gN 45 (Zx (List.replicate (n1 + s) Zak)):=by rw [<- hW3];exact hbN.far (by show gN ≠ go;omega) _
   have hk3 : Kept (fun k=>k = go) w1 W3:=by
    rw [<- hW3];exact Kept.set_ (G:=fun k=>k = go) (Kept.of_below hb2) (p:=⟨go,i,none⟩) (Or.inl rfl) _
   have hget : ∀ W,Blk W go 40 (Z2 ((L ++ [RF.mk gN (n1 + s) (Q[i]?.getD [] ++ S i)]).map RF.rs ++ List.replicate (n - (i + 1)) Zam)) -> W.cell? ⟨go,i,none⟩ = some (.slice (some ⟨gN,0,none⟩) (n1 + s) (n1 + s)):=fun W hW=>by
    rw [hW.cell];refine Zbi (e:=⟨some ⟨gN,0,none⟩,n1 + s,n1 + s⟩) ?_;rw [<- hset,List.getElem?_set_self (by simp [hLl.out];omega)]
   have x3:=hget W3 hbo3
   have hcp1:=fun ty=>Zhf (P:=Tryz.prog) W3 40 ty 45 iF Tryz.underlying40 hi hz1 hbN3 W3.heap.size A1 n1 c1 fs (hRf W3 hk3).1 hfl hm0 (d:=n1 + s) (dc:=n1 + s) (k:=0) (by omega) (by simp)
   rw [Nat.zero_mul,List.take_zero,List.nil_append,Nat.zero_add,List.drop_replicate,Nat.add_sub_cancel_left] at hcp1;obtain ⟨W4,hW4⟩ : ∃ X,W3.setRow gN (Zx (fs ++ List.replicate s Zak)) = X:=⟨_,rfl⟩;rw [hW4] at hcp1
   have hbN4 : Blk W4 gN 45 (Zx (fs ++ List.replicate s Zak)):=by rw [<- hW4];exact Zlv hbN3
   have hbo4:=show Blk W4 go 40 _ by rw [<- hW4];exact Zlg hbo3 (by omega)
   have hk4 : Kept (fun k=>k = go) w1 W4:=by rw [<- hW4];exact hk3.setRow (.inr (by omega)) _
   have x4:=hget W4 hbo4
   have hcp2:=fun ty=>Zhf (P:=Tryz.prog) W4 40 ty 45 iF Tryz.underlying40 hi hz1 hbN4 W4.heap.size As s cs gs (hRg W4 hk4).1 hgl hs0 (d:=s) (dc:=s) (k:=n1) (Nat.le_refl _) (by simp [hfl])
   rw [List.take_left' hfl,show n1 + s = (fs ++ List.replicate s Zak).length by simp [hfl],List.drop_length,List.append_nil] at hcp2;obtain ⟨W5,hW5⟩ : ∃ X,W4.setRow gN (Zx (fs ++ gs)) = X:=⟨_,rfl⟩;rw [hW5] at hcp2
   have hbN5 : Blk W5 gN 45 (Zx (fs ++ gs)):=by rw [<- hW5];exact Zlv hbN4
   have hbo5:=show Blk W5 go 40 _ by rw [<- hW5];exact Zlg hbo4 (by omega)
   have hk5 : Kept (fun k=>k = go) w1 W5:=by rw [<- hW5];exact hk4.setRow (.inr (by omega)) _
   have hmk:=Zqt (P:=Tryz.prog) 40 45 Tryz.underlying40 hi hz0 hz1 hz2 ((n1 : Int) + (s : Int)) (n1 + s) (by omega) (by omega);have bx : (i : Int) < (n : Int):=bi
   have hFO : FOwn 45 W5 gN (Q[i]?.getD [] ++ S i):=⟨fs ++ gs,[],by rw [List.append_nil];exact hbN5,fun e he=>by
    rcases List.mem_append.1 he with he | he
    ·exact (hRf W5 hk5).2 e he
    ·exact (hRg W5 hk5).2 e he,by rw [List.map_append,hfq,hgq]⟩
   have hGw : ∀ k,k = go -> ∃ t cs,Blk wr k t cs /\ NoLimb cs:=fun k hk=>⟨_,_,hk ▸ hbo.out,Zbb _⟩
   have hk05 : Kept (fun k=>k = go) wr W5:=(Kept.of_below hb1).trans (hk5.mono (fun k _ h=>h))
   have hrows5 : Hid (∀ r ∈ L ++ [RF.mk gN (n1 + s) (Q[i]?.getD [] ++ S i)],(FOwn 45 W5 r.g r.q /\ r.q.length <= r.c /\ r.c <= maxLen) /\ W0.heap.size <= r.g):=Za (fun r hr=>by
    rcases List.mem_append.1 hr with hr | hr
    ·obtain ⟨⟨r1,r2⟩,r3⟩:=hrows.out r hr
     have:=s0.out;exact ⟨⟨r1.keptG hk05 (by omega) hGw,r2⟩,r3⟩
    ·rw [List.mem_singleton] at hr
     subst hr;have h7:=hK.size;have h8:=hb1.size
     exact ⟨⟨hFO,by show (Q[i]?.getD [] ++ S i).length <= n1 + s;omega,by show n1 + s <= maxLen;unfold maxLen;omega⟩,by show W0.heap.size <= gN;omega⟩)
   have hnd5 : Hid (((L ++ [RF.mk gN (n1 + s) (Q[i]?.getD [] ++ S i)]).map RF.g).Nodup):=Za (by
    rw [List.map_append,List.nodup_append];refine ⟨hnd.out,by simp,fun a ha b hb=>?_⟩;obtain ⟨r,hr,rfl⟩:=List.mem_map.1 ha;simp only [List.map_cons,List.map_nil,List.mem_singleton] at hb;have h6:=(hrows.out r hr).1.1.lt;have h7:=hb1.size
    omega)
   have hLq5 : Hid ((L ++ [RF.mk gN (n1 + s) (Q[i]?.getD [] ++ S i)]).map RF.q = (List.range (i + 1)).map fun i=>Q[i]?.getD [] ++ S i):=Za (by
    rw [List.map_append,hLq.out,List.range_succ,List.map_append];rfl)
   have hK5 : Hid (Kept (fun k=>k = go) W0 W5):=Za (hK.trans hk05);have hLl5 : Hid ((L ++ [RF.mk gN (n1 + s) (Q[i]?.getD [] ++ S i)]).length = i + 1):=Za (by rw [List.length_append,hLl.out];rfl);replace hbo5:=Za hbo5;clear hRf hRg hfl hfq hgl hgq hbo1 hb2 hbN hbo2 hset hbo3 hbN3 hk3 hget hbN4 hbo4 hk4 hbN5 hk5 hFO hGw hk05 hFS hgo1;go_wp2_with fail
   go_roundg (n - (i + 1))
   case measure=>omega
   case rel=>exact ⟨i + 1,L ++ [RF.mk gN (n1 + s) (Q[i]?.getD [] ++ S i)],by omega,by go_num,hLl5,hbo5.out,hrows5,hnd5,hLq5,hK5.out⟩
end Go.Proofs.YtigdclhagmnopaaGreat
