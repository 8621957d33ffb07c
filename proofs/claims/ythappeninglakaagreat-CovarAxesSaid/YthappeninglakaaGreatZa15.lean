/- The reference of linear: Check, square. The reference of -/
import Derived.Test.YthappeninglakaaGreatZa14
set_option maxRecDepth 100000
set_option maxHeartbeats 4000000
set_option linter.unusedSimpArgs false
set_option linter.unusedVariables false
namespace Go.Proofs.YthappeninglakaaGreat
open Go.RowKit
open Act renaming put→Qa
open List renaming all_eq_true→Qb
attribute [local go_sem] Zi
theorem Zjc{rs:List RX}(h:Zg1 rs=0):0<rs.length/\rs.length<=12/\0<n0R rs/\n0R rs<=12/\∀ r ∈ rs,r.n=n0R rs/\Zex r.es=true:=by
 unfold Zg1 at h
 split at h
 exact absurd h Gj;rename_i h1
 split at h
 exact absurd h Gj;rename_i h2
 split at h
 ·rename_i h3
  rw[Qb]at h3
  have hf:∀ r ∈ rs,r.n=n0R rs/\Zex r.es=true:=λr hr=>by
   have:=h3 r hr;unfold Zhd at this;simpa using this
  unfold Zhz at h1;simp only[Bool.or_eq_true,decide_eq_true_eq,not_or,Nat.not_lt,Bool.not_eq_true,List.any_eq_false]at h1;have f:rs ≠ []:=λe=>h2 (by rw[e];rfl);obtain⟨r,hr⟩:=List.exists_mem_of_ne_nil rs f;have h4:¬ 12<r.n:=by have:=h1.2 r hr;unfold RX.long at this;simpa using this
  have h5:=hf r hr;exact⟨List.length_pos_iff.2 f,h1.1,by omega,by omega,hf⟩
 exact absurd h Gj
theorem Zzf{es:List FX}(h:Zex es=true):∀ e ∈ es,e.ok=true:=λe he=>by
 unfold Zex at h;rw[Qb]at h;have:=h e he;unfold FX.fine at this;rw[Bool.and_eq_true]at this;exact this.2
section
variable{w:World}{A:Option Addr}{n c:Nat}{rs:List RX}
theorem MXL.good(h:MXL w A n c rs)(hE:Zg1 rs=0):MFL w A n c (qM rs):=h.mfl λr hr=>Zzf ((Zjc hE).2.2.2.2 r hr).2
theorem qM_row(h:MXL w A n c rs)(hE:Zg1 rs=0)(i:Nat)(hi:i<n):((qM rs)[i]?.getD []).length=n0R rs:=by
 unfold qM;have he:=List.getElem?_eq_getElem (l:=rs) (i:=i) (by rw[h.1];exact hi);rw[List.getElem?_map,he];simp only[Option.map_some,Option.getD_some,List.length_map];have hm:=List.getElem_mem (l:=rs) (n:=i) (by rw[h.1];exact hi);rw[(h.2.2.2.1 _ hm).1,((Zjc hE).2.2.2.2 _ hm).1]
end
theorem Zfp(a:Bool)(A:Option Addr)(n c:Nat)(b:Bool)(B:Option Addr)(m d:Nat):NoLimb #[.bool a,.slice A n c,.bool b,.slice B m d]:=λi x=>by
 match i with
 | 0=>simp
 | 1=>simp
 | 2=>simp
 | 3=>simp
 | i+4=>simp
theorem Zfo{v:Value}(h:∀ x,v≠limb x):NoLimb #[v]:=λi x=>by
 match i with
 | 0=>simpa using h x
 | i+1=>simp
theorem Z1o(gg gr ga gn go n cap q r:Nat)(ng:Bool)(vby:Value)(L:List RZ)(w:World)(h1:Blk w gg 152 #[.slice (some ⟨go,0,none⟩) n cap,vby])(h2:Blk w gr 3 #[.int .i64 r])(h3:Blk w ga 3 #[.int .i64 q])(h4:Blk w gn 4 #[.bool ng])
    (hM:MatZ 150 39 w go L) (hn:L.length=n) (hq:q<n) (hr:r<n) (hqr:q≠r) (hd:gg≠go/\gr≠go/\ga≠go/\gn≠go) :
    Calls Tryz.prog 175 #[.pointer (some ⟨gg,0,none⟩),.pointer (some ⟨gr,0,none⟩),.pointer (some ⟨ga,0,none⟩),.pointer (some ⟨gn,0,none⟩)] w λe w'=>e=.returned (.tuple #[]) /\
     MatZ 150 39 w' go (Zag L q r)/\Blk w' gn 4 #[.bool (!ng)]/\Kept (λk=>k=go \/ k=gn) w w':=by
 have hmx:=Gt;obtain⟨x,hx⟩:=Zb5 (L:=L) (i:=q) Gk;obtain⟨y,hy⟩:=Zb5 (L:=L) (i:=r) Gk;obtain⟨cx,zx⟩:=hM.cell hx;obtain⟨cy,zy⟩:=hM.cell hy;have c1:w.cell? ⟨gg,0,none⟩=some (.slice (some ⟨go,0,none⟩) n cap):=by rw[h1.cell];rfl
 have c2:w.cell? ⟨gr,0,none⟩=some (.int .i64 r):=by rw[h2.cell];rfl
 have c3:w.cell? ⟨ga,0,none⟩=some (.int .i64 q):=by rw[h3.cell];rfl
 have bq:(q:Int)<(n:Int):=Gk;have br:(r:Int)<(n:Int):=Gk;obtain⟨zs,u⟩:=hM.1;have h:Blk (w.setCell ⟨go,q,none⟩ (.slice (some ⟨y.g,0,none⟩) y.q.length y.q.length)) go 150 _:=u.set_ q (.slice (some ⟨y.g,0,none⟩) y.q.length y.q.length);have g1:(w.setCell ⟨go,q,none⟩ (.slice (some ⟨y.g,0,none⟩) y.q.length y.q.length)).cell? ⟨gg,0,none⟩=some (.slice (some ⟨go,0,none⟩) n cap):=by rw[(h1.far hd.1 _).cell];rfl
 have g2:(w.setCell ⟨go,q,none⟩ (.slice (some ⟨y.g,0,none⟩) y.q.length y.q.length)).cell? ⟨gr,0,none⟩=some (.int .i64 r):=by rw[(h2.far hd.2.1 _).cell];rfl
 have g3:(w.setCell ⟨go,q,none⟩ (.slice (some ⟨y.g,0,none⟩) y.q.length y.q.length)).cell? ⟨ga,0,none⟩=some (.int .i64 q):=by rw[(h3.far hd.2.2.1 _).cell];rfl
 have g4:(w.setCell ⟨go,q,none⟩ (.slice (some ⟨y.g,0,none⟩) y.q.length y.q.length)).cell? ⟨go,r,none⟩=some (.slice (some ⟨y.g,0,none⟩) y.q.length y.q.length):=by
  rw[h.cell,Array.getElem?_setIfInBounds,Gw hqr,<- u.cell];exact cy
 have z4:=h.frozen r;obtain⟨V,hV⟩:∃ V,((w.setCell ⟨go,q,none⟩ (.slice (some ⟨y.g,0,none⟩) y.q.length y.q.length)).setCell ⟨go,r,none⟩ (.slice (some ⟨x.g,0,none⟩) x.q.length x.q.length)).drew=V:=⟨_,rfl⟩;have J:Hid (MatZ 150 39 V go (Zag L q r)):=Zd (by rw[<- hV];exact(hM.swap hx hy).below (Zh (Below.refl _ _) 1));have f:Blk V gn 4 #[.bool ng]:=by rw[<- hV];exact(h4.far hd.2.2.2 _).far hd.2.2.2 _
 have a2:Hid (Kept (λk=>k=go \/ k=gn) w V):=Zd (by
  rw[<- hV];exact(((Kept.refl _ w).set_ (p:=⟨go,q,none⟩) (.inl (.inl rfl)) _).set_ (p:=⟨go,r,none⟩) (.inl (.inl rfl)) _).drewN 1)
 have c5:V.cell? ⟨gn,0,none⟩=some (.bool ng):=by rw[f.cell];rfl
 have z5:=f.frozen 0;replace f:=Zd f;replace u:=Zd u;replace h:=Zd h;clear hM h1 h2 h3 h4;go_in;go_wp2_with fail;have o:w.drew.cell? ⟨gg,0,none⟩=some (.slice (some ⟨go,0,none⟩) n cap)/\w.drew.cell? ⟨gr,0,none⟩=some (.int .i64 r)/\w.drew.cell? ⟨ga,0,none⟩=some (.int .i64 q)/\w.drew.cell? ⟨go,r,none⟩=some (.slice (some ⟨y.g,0,none⟩) y.q.length y.q.length):=⟨c1,c2,c3,cy⟩;have I:(w.setCell ⟨go,q,none⟩ (.slice (some ⟨y.g,0,none⟩) y.q.length y.q.length)).drew.cell? ⟨gg,0,none⟩=some (.slice (some ⟨go,0,none⟩) n cap)/\(w.setCell ⟨go,q,none⟩ (.slice (some ⟨y.g,0,none⟩) y.q.length y.q.length)).drew.cell? ⟨gr,0,none⟩=some (.int .i64 r)/\(w.setCell ⟨go,q,none⟩ (.slice (some ⟨y.g,0,none⟩) y.q.length y.q.length)).drew.cell? ⟨ga,0,none⟩=some (.int .i64 q)/\(w.setCell ⟨go,q,none⟩ (.slice (some ⟨y.g,0,none⟩) y.q.length y.q.length)).drew.cell? ⟨go,r,none⟩=some (.slice (some ⟨y.g,0,none⟩) y.q.length y.q.length):=⟨g1,g2,g3,g4⟩;refine Zz [19] (λwx=>wx.cell? ⟨gg,0,none⟩=some (.slice (some ⟨go,0,none⟩) n cap)/\wx.cell? ⟨gr,0,none⟩=some (.int .i64 r)/\wx.cell? ⟨ga,0,none⟩=some (.int .i64 q)/\wx.cell? ⟨go,r,none⟩=some (.slice (some ⟨y.g,0,none⟩) y.q.length y.q.length)) hmx o (λhxs=>?_);refine Zkb 15 [0,1,2,3,4,5,6,7,8,9,10,11,12,13,14] rfl Gi o ?_
 iterate 15 (refine tkA ?_;try simp only[Qa,Zg9,Zgn,Zg3,Gr,Gq,Gp])
 refine tk0 ?_;have a1:w.drew.cell? ⟨go,q,none⟩=some (.slice (some ⟨x.g,0,none⟩) x.q.length x.q.length):=cx;have Y:w.drew.frozen? ⟨go,q,none⟩=false:=zx;refine wpAnyL_o 15 λK hK=>?_;go_simp;refine hK.out _ _ (λ_=>o) ?_;clear hK K
 try simp only[Qa,Zg9,Zgn,Zg3]
 refine Zgo 1 [16] rfl Gi o ?_
 (refine tkA ?_;try simp only[Qa,Zg9,Zgn,Zg3,Gr,Gq,Gp])
 refine tk0 ?_;refine wpAnyL_o 17 λK hK=>?_;go_simp;refine hK.out _ _ (λ_=>I) ?_;clear hK K
 try simp only[Qa,Zg9,Zgn,Zg3]
 refine Zgo 1 [18] rfl Gi I ?_
 (refine tkA ?_;try simp only[Qa,Zg9,Zgn,Zg3,Gr,Gq,Gp])
 refine tk0 ?_;refine Zy (i:=19) rfl Gi Gi (λK hK=>?_);go_simp;(try rw[hV]);refine hK.out _ _ ?_;clear hK K
 try simp only[Qa,Zg9,Zgn,Zg3]
 refine wpAnyL_fin ?_;clear hV o I hxs a1 Y g1 g2 g3 g4 z4 c1 c2 c3 cx cy zx zy;obtain⟨V2,C⟩:∃ V2,V.setCell ⟨gn,0,none⟩ (.bool (!ng))=V2:=⟨_,rfl⟩;have U:Hid (Blk V2 gn 4 #[.bool (!ng)]):=Zd (by rw[<- C];exact f.out.set_ 0 (.bool (!ng)))
 have a0:Hid (MatZ 150 39 V2 go (Zag L q r)):=Zd (by
  rw[<- C];have T:Kept (λk=>k=gn) V (V.setCell ⟨gn,0,none⟩ (.bool (!ng))):=(Kept.refl (λk=>k=gn) V).set_ (p:=⟨gn,0,none⟩) (.inl rfl) _;refine J.out.keptG T (λe=>hd.2.2.2 e.symm) (λs hs e=>?_) (λk hk=>⟨_,_,(hk▸f.out:Blk V k 4 #[.bool ng]),Zfo (λx=>by simp)⟩);obtain⟨es,q1,-,-⟩:=(J.out.2.1 s hs).1;rw[e]at q1;have:=q1.type f.out
  revert this;decide)
 have O:Hid (Kept (λk=>k=go \/ k=gn) w V2):=Zd (by rw[<- C];exact a2.out.set_ (p:=⟨gn,0,none⟩) (.inl (.inr rfl)) _);go_wp2_with fail;(try rw[C]);go_returns;exact⟨rfl,a0.out,U.out,O.out⟩
