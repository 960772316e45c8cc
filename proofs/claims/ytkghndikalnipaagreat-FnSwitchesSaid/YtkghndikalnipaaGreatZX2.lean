import Derived.Test.YtkghndikalnipaaGreatZX1
import Derived.Great.BuildSlice
import Derived.Laws.MakeOwn
import Derived.Lib.AppendZerosOnto
import Derived.Laws.BytesString
set_option linter.unusedSimpArgs false
set_option linter.unusedVariables false
namespace Go.Proofs.YtkghndikalnipaaGreat.En
section
open Go Go.RowKit
section
variable {P:Program} {w0 w:World} {W:Nat->Prop} {bt:Bt} {S:St} {a:Act}
theorem Ai{x:AV}{c:Value}(h:VR w bt x c)(p:dM):HR bt p (T.ofSc x) c:=by cases h<;>first |exact .sc ‹_› |exact .dd _
theorem ww(x:AV): (∃v,T.ofSc x= .sc v)\/T.ofSc x= .dd:=by cases x<;>first |exact .inl ⟨_,rfl⟩|exact .inr rfl
theorem pB[dE](hI:eh w0 W bt S w)(hE:ER w bt S a){t:TypeId}{ti:TypeInfo}(hi:P.info? t=some ti){p:dM}{sz i j:Nat}{v:AV}{u:Value}{S':St}(hv:VR w bt v u)(hd:v.isDead=false)
  (hsz:v.cells.length=P.cellsOf t) (hpos:0<P.cellsOf t) (h:fU S p sz i j (v.cells.map T.ofSc)=some S'):
  ∃w',(Instr.storeAt t (.pointer (some ⟨(bt.β p).1,(bt.β p).2+(i*sz+j),none⟩)) u).run P w= .ok () w'/\eO w0 W bt S a bt S' w'/\S'.env=S.env/\
   ∃rows cs e,S.look p= .sl sz rows/\i<rows.length/\j+v.cells.length<=(rows.getD i []).length/\
    S'=S.setAt p (.sl sz (rows.set i ((rows.getD i []).take j++v.cells.map T.ofSc++(rows.getD i []).drop (j+v.cells.length))))/\
    w'.heap[(bt.β p).1]? =some (.cells cs e (0,0))/\ ∀ (k:Nat) (x:AV),v.cells[k]? =some x-> ∃c,cs[(bt.β p).2+(i*sz+(j+k))]? =some c/\VR w' bt x c:=by
 unfold fU at h;split at h
 ·rename_i rows hrows;split at h
  ·rename_i hc;simp only[af] at h;subst h;simp only[aH] at hc ⊢;have hlook:=fw hrows;obtain⟨hlen,hrest⟩:=hI.tr _ _ _ hlook;have hk0:0<bt.κ p:=by omega
   obtain⟨_,arr,e,hh,hκs,hone,hcell⟩:=hrest hk0;obtain⟨g1,g2,g3⟩:=iW hv hd;have hrow:rows[i]? =some (rows.getD i []):=by simp[List.getD,aq hc.1]
   obtain⟨hrl,hrc⟩:=hcell i _ hrow;generalize hr0:rows.getD i [] =r0 at hc hrow hrl hrc ⊢
   have hfit: (bt.β p).2+(i*sz+sz)<=arr.size:=by have hκs:=hκs.1;have : (i+1)*sz<=bt.κ p*sz:=bz _ (by omega);rw[bB,Nat.one_mul] at this;omega
   have hul:u.cells.toList.length=v.cells.length:=by simpa using g1
   have hrun:=m8 (P:=P) hi hh (o:=(bt.β p).2+(i*sz+j)) (u:=u) (by omega) g2 (by omega);generalize hcs: (arr.toList.take ((bt.β p).2+(i*sz+j))++u.cells.toList++arr.toList.drop ((bt.β p).2+(i*sz+j)+u.cells.size)).toArray=cs at hrun
   have hcs': ∀k,cs[k]? =if k< (bt.β p).2+(i*sz+j) then arr[k]? else if k< (bt.β p).2+(i*sz+j)+v.cells.length then u.cells[k-((bt.β p).2+(i*sz+j))]? else arr[k]? :=by intro k;have:=iK arr.toList u.cells.toList ((bt.β p).2+(i*sz+j)) (by simp;omega) k;rw[<-hcs];simp only[dq,g1] at this ⊢;simpa using this
   have hsize:cs.size=arr.size:=by rw[<-hcs];simp;omega
   obtain⟨hI',hA⟩:=hI.setTree (rows:=rows.set i (r0.take j++v.cells.map T.ofSc++r0.drop (j+v.cells.length))) (cs:=cs) hlook hk0 hh hsize
    (λk x hk=>by grind)
    (by simp)
    (λi' r hr=>by
      rw[bH] at hr;by_cases hii:i=i'
      ·subst hii;simp only[if_true,hc.1,af] at hr;subst hr;refine⟨by grind,λj' x hx=> ?_⟩;have hjl: (v.cells.map T.ofSc).length=v.cells.length:=by simp
       rw[<-hjl,iK _ _ _ (by rw[hjl];omega)] at hx;rw[hjl] at hx
       have hj's:j'<sz:=by
        by_cases q1:j'<j
        ·omega
        ·grind
       rw[hcs'];by_cases q1:j'<j
       ·grind
       ·rw[if_neg q1] at hx;rw[if_neg (by omega)];by_cases q2:j'<j+v.cells.length
        ·rw[if_pos q2,aw] at hx;rw[if_pos (by omega)];cases hy:v.cells[j'-j]? with
         |none=>rw[hy] at hx;cases hx
         |some y=>
          rw[hy] at hx;simp only[aF,af] at hx;subst hx;obtain⟨c,k1,k2,_⟩:=g3 _ y hy;refine⟨⟨c,by rw[<-k1];congr 1;omega,Ai k2 _⟩,?_⟩
          grind [ww]
        grind
      ·rw[if_neg hii] at hr;obtain⟨k1,k2⟩:=hcell i' r hr;refine⟨k1,λj' x hx=>⟨?_,.inr (.inr ⟨r,hr,hx⟩)⟩⟩;obtain⟨c,m1,m2⟩:=k2 j' x hx;refine⟨c,?_,m2⟩
       have hj's:j'<sz:=by have:=(ai.1 hx).1;omega
       rw[hcs'];by_cases q:i'<i
       ·have :i'*sz+sz<=i*sz:=by
         have : (i'+1)*sz<=i*sz:=bz _ (by omega);rw[bB,Nat.one_mul] at this;omega
        grind
       ·have :i*sz+sz<=i'*sz:=by
         have : (i+1)*sz<=i'*sz:=bz _ (by omega);rw[bB,Nat.one_mul] at this;omega
        grind)
   refine⟨_,hrun,⟨hI',⟨hE.1,λt=>(hE.2 t).mono (Bt.le.refl _) hA⟩,rfl,trivial,az _,λ_ _=>⟨rfl,rfl⟩,λr hr hg=> ?_⟩,rfl,rows,cs,e,hlook,hc.1,by rw[hr0];exact hc.2,by rw[hr0],setRow_heap w _ _ _ _ _ hh,λk x hk=> ?_⟩
   ·have hg':=hg;simp only[St.setAt,dQ] at hg';split at hg'
    all_goals simp_all
   ·obtain⟨c,k1,k2,_⟩:=g3 k x hk;refine⟨c,?_,k2.mono (Bt.le.refl _) hA⟩
    grind
  ·cases h
 ·cases h
end
end
section
open Go Go.RowKit
def js(p x:dM):Prop:=x.r=p.r/\p.l <+:x.l
instance (p x:dM):Decidable (js p x):=inferInstanceAs (Decidable (_/\_))
theorem oD: ∀ (l m:List (Nat×Nat)),l <+:m->mu l m=true
 | [],_,_=>rfl
 | (i,j)::l,m,h=>by obtain⟨t,rfl⟩:=h;simp only[cG,mu,beq_self_eq_true,dz];exact oD l _ ⟨t,rfl⟩
theorem js.under{p x:dM}(h:js p x):under p x=true:=by simp only[En.under,ak,beq_iff_eq];exact⟨h.1.symm,oD _ _ h.2⟩
def Bt.move(bt:Bt)(p:dM)(q:Nat):Bt:={ bt with β:=λx=>if js p x then bt.β ⟨q,x.l.drop p.l.length⟩ else bt.β x,κ:=λx=>if js p x then bt.κ ⟨q,x.l.drop p.l.length⟩ else bt.κ x }
def Bt.clear(bt:Bt)(p:dM):Bt:={ bt with κ:=λx=>if js p x then 0 else bt.κ x }
section
variable {P:Program} {w0 w:World} {W:Nat->Prop} {bt:Bt} {S:St} {a:Act}
theorem qH{bt':Bt}{p:dM}(hA:bt'.A=bt.A)(hb:bt'.bb=bt.bb)(hnb:bt'.nb=bt.nb)(hng:bt'.ng=bt.ng)(hβ: ∀x,¬js p x->bt'.β x=bt.β x)(hκ: ∀x,¬js p x->bt'.κ x=bt.κ x)
  {v:AV} {u:Value} (h:VR w bt v u):VR w bt' (kill p v) u/\VR w bt' (iY p v) u/\VR w bt' (gV p v) u:=by
 have hown: ∀ {q sz lo len a cap},q.r<bt.ng->len<=cap->lo+cap<=bt.κ q->(0<cap->a=some ⟨(bt.β q).1,(bt.β q).2+lo*sz,none⟩)->VR w bt' (if under p q then .dead else .own q sz lo len) (.slice a len cap):=by
  intro q sz lo len a cap h1 h2 h3 h4;split
  ·exact .dead _
  ·rename_i hu;have hn: ¬js p q:=λhu'=>hu hu'.under;exact .own (by rw[hng];exact h1) h2 (by rw[hκ q hn];exact h3) (by rw[hβ q hn];exact h4)
 have hptr: ∀ {q sz i j},q.r<bt.ng->i<bt.κ q->VR w bt' (if under p q then .dead else .ptrT q sz i j) (.pointer (some ⟨(bt.β q).1,(bt.β q).2+(i*sz+j),none⟩)):=by
  intro q sz i j h1 h2;split
  ·exact .dead _
  ·rename_i hu;have hn: ¬js p q:=λhu'=>hu hu'.under;rw[<-hβ q hn];exact .ptrT _ _ _ (by rw[hng];exact h1) (by rw[hκ q hn];exact h2)
 induction h with
 |sc h=>exact⟨.sc h,.sc h,.sc h⟩
 |em a=>exact⟨.em a,.em a,.em a⟩
 |ro h=>exact⟨.ro (by rw[hA];exact h),.ro (by rw[hA];exact h),.ro (by rw[hA];exact h)⟩
 |own h1 h2 h3 h4=>exact⟨hown h1 h2 h3 h4,hown h1 h2 h3 h4,hown h1 h2 h3 h4⟩
 |pro cs hs hAd hr ht=>have :VR w bt' (.pro _) _:=.pro cs hs (by rw[hA];exact hAd) hr (λj x hx=>by rw[hA];exact ht j x hx);exact⟨this,this,this⟩
 |ptrB j hn=>have :VR w bt' (.ptrB _ j) _:=.ptrB j (by rw[hnb];exact hn);rw[hb] at this;exact⟨this,this,this⟩
 |ptrT sz i j h1 h2=>exact⟨hptr h1 h2,hptr h1 h2,hptr h1 h2⟩
 |fn f hl h ih=>
  have :VR w bt' (.fn f (_root_.List.map (gV p) _)) _:=.fn f (by simpa using hl) (λk c u h1 h2=>by grind)
  exact⟨this,this,.dead _⟩
 |agg hl ho h ih=>
  have :VR w bt' (.agg (_root_.List.map (gV p) _)) _:=.agg (by simpa using hl) ho (λk c u h1 h2=>by grind)
  exact⟨this,this,.dead _⟩
 |tup hl h ih=>
  have :VR w bt' (.tup (_root_.List.map (iY p) _)) _:=.tup (by simpa using hl) (λk c u h1 h2=>by grind)
  exact⟨this,.dead _,.dead _⟩
 |dead u=>exact⟨.dead _,.dead _,.dead _⟩
theorem eh.regraft[dE](hI:eh w0 W bt S w){bt':Bt}{p:dM}{i j szp:Nat}{prows:List (List T)}{r0:List T}{X:T}{s:Nat}{xrows:List (List T)}{g:Nat->Option T}{env:Nat->AV}{bx:Nat->Option (List AV)}
  (hp:S.look p= .sl szp prows) (hi:prows[i]? =some r0) (hj:j<r0.length) (hX:X= .sl s xrows)
  (hg: ∀r t,g r=some t->(r=p.r/\ ∃t0,S.gh p.r=some t0/\t=t0.put (p.l++ [(i,j)]) X)\/(r≠p.r/\S.gh r=some t))
  (hgp: ∀t0,S.gh p.r=some t0->g p.r=some (t0.put (p.l++ [(i,j)]) X))
  (hA:bt'.A=bt.A) (hb:bt'.bb=bt.bb) (hnb:bt'.nb=bt.nb) (hng:bt'.ng=bt.ng) (hβ: ∀x,¬js (p.sub i j) x->bt'.β x=bt.β x) (hκ: ∀x,¬js (p.sub i j) x->bt'.κ x=bt.κ x)
  (hcell:0<bt.κ p-> ∀cs e,w.heap[(bt.β p).1]? =some (.cells cs e (0,0))-> ∃c,cs[(bt.β p).2+(i*szp+j)]? =some c/\HR bt' (p.sub i j) X c)
  (hbx: ∀ (n:Nat) (cells':List AV),bx n=some cells'-> ∃ (cells:List AV),S.bx n=some cells/\cells'.length=cells.length/\ ∀ (k:Nat) (v':AV),cells'[k]? =some v'-> ∃ (v:AV),cells[k]? =some v/\ ∀u,VR w bt v u->VR w bt' v' u)
  (hin: ∀m sz rows,X.go m= .sl sz rows->rows.length<=bt'.κ ⟨p.r,p.l++ [(i,j)] ++m⟩/\(0<bt'.κ ⟨p.r,p.l++ [(i,j)] ++m⟩->(w0.heap.size<=(bt'.β ⟨p.r,p.l++ [(i,j)] ++m⟩).1\/W (bt'.β ⟨p.r,p.l++ [(i,j)] ++m⟩).1)/\yT w bt' ⟨p.r,p.l++ [(i,j)] ++m⟩ sz rows/\
    (∀n cs,S.bx n=some cs->bt.bb n≠(bt'.β ⟨p.r,p.l++ [(i,j)] ++m⟩).1)/\ ¬bt.A (bt'.β ⟨p.r,p.l++ [(i,j)] ++m⟩).1/\
    (∀q s rs,S.look q= .sl s rs->g q.r≠none-> ¬js (p.sub i j) q->0<bt.κ q->(bt.β q).1≠(bt'.β ⟨p.r,p.l++ [(i,j)] ++m⟩).1)/\
    (∀m' sz' rows',X.go m'= .sl sz' rows'->0<bt'.κ ⟨p.r,p.l++ [(i,j)] ++m'⟩->(bt'.β ⟨p.r,p.l++ [(i,j)] ++m'⟩).1=(bt'.β ⟨p.r,p.l++ [(i,j)] ++m⟩).1->m'=m))):
  eh w0 W bt' { S with env:=env,bx:=bx,gh:=g } w:=by
 obtain⟨t,ht,htp⟩: ∃t,S.gh p.r=some t/\t.go p.l= .sl szp prows:=by grind [St.look]
 have hval:t.go (p.l++ [(i,j)])≠ .dd\/(∃l' i' j' sz rows r,p.l++ [(i,j)] =l'++ [(i',j')] /\t.go l'= .sl sz rows/\rows[i']? =some r/\j'<r.length):=
  .inr ⟨p.l,i,j,szp,prows,r0,rfl,htp,hi,hj⟩
 have hself:=T.put_self X (p.l++ [(i,j)]) t hval
 have fB: ∀q sz rs,({ S with env:=env,bx:=bx,gh:=g }:St).look q= .sl sz rs->
   (∃m,q=⟨p.r,p.l++ [(i,j)] ++m⟩/\X.go m= .sl sz rs)\/(¬js (p.sub i j) q/\g q.r≠none/\ ∃rs0,S.look q= .sl sz rs0/\rs.length=rs0.length/\ ∀ (a:Nat) (r:List T),rs[a]? =some r-> ∃r0,rs0[a]? =some r0/\r.length=r0.length/\
     ∀ (b:Nat) (y:T),r[b]? =some y-> ∃y0,r0[b]? =some y0/\((q=p/\a=i/\b=j/\y=X)\/(¬js (p.sub i j) (q.sub a b)/\ ∀c,HR bt (q.sub a b) y0 c->HR bt (q.sub a b) y c))):=by
  intro q sz rs h;unfold St.look at h;simp only at h;cases hgq:g q.r with
  |none=>rw[hgq] at h;cases h
  |some tq=>
   rw[hgq] at h;simp only at h;rcases hg _ _ hgq with ⟨hqr,t0,ht0,rfl⟩| ⟨hqr,hold⟩
   ·rw[ht] at ht0;simp only[af] at ht0;subst ht0;rcases T.put_spec X (p.l++ [(i,j)]) t hval q.l sz rs h with ⟨m,hm,hgo⟩| ⟨rs0,g1,g2,g3,g4⟩
    ·left;refine⟨m,?_,hgo⟩;obtain⟨qr,ql⟩:=q;simp only at hm hqr;rw[hm,hqr]
    ·right
     have hnu: ¬js (p.sub i j) q:=by
      rintro⟨_,m,hm⟩
      exact g3 m hm.symm
     refine⟨hnu,by simp,rs0,by unfold St.look;rw[hqr,ht];exact g1,g2,λa r h1=> ?_⟩;obtain⟨r1,k1,k2,k3⟩:=g4 a r h1;refine⟨r1,k1,k2,λb y h2=> ?_⟩;obtain⟨y0,j1,j2⟩:=k3 b y h2;refine⟨y0,j1,?_⟩;by_cases hl:q.l++ [(a,b)] =p.l++ [(i,j)]
     ·left;have:=List.append_inj' hl rfl;obtain⟨e1,e2⟩:=this;simp only[bu,au,and_true] at e2;refine⟨?_,e2.1,e2.2,?_⟩
      ·obtain⟨qr,ql⟩:=q
       simp_all
      ·have hself': (t.put (p.l++ [(i,j)]) X).go (q.l++ [(a,b)])=X:=by rw[hl];exact hself
       rw[T.go_append,h] at hself';have : ((rs.getD a []).getD b .dd).go [] =X:=hself'
       grind [T.go]
     ·right;refine⟨?_,λc hc=> ?_⟩
      ·rintro⟨_,m,hm⟩
       simp only[dM.sub] at hm;rcases List.eq_nil_or_concat m with rfl| ⟨m',x,rfl⟩
       ·exact hl (by simpa using hm.symm)
       ·rw[List.concat_eq_append,<-bk] at hm;have:=List.append_inj' hm rfl;exact hnu ⟨hqr,m',this.1⟩
      ·rcases j2 with rfl| ⟨hl',_⟩| ⟨s',ra,rb,rfl,rfl,hab⟩
       ·exact hc
       ·exact absurd hl' hl
       ·exact hc.len hab
   ·right;have hnu: ¬js (p.sub i j) q:=λhu=>hqr hu.1;refine⟨hnu,by simp,rs,by unfold St.look;rw[hold];exact h,rfl,λa r h1=>⟨r,h1,rfl,λb y h2=>⟨y,h2,.inr ⟨λhu=>hqr hu.1,λc hc=>hc⟩⟩⟩⟩
 have box0: ∀n cs,bx n=some cs-> ∃cs0,S.bx n=some cs0:=λn cs h=>by grind
 exact { good:=hI.good,os:=hI.os,tape:=hI.tape,output:=hI.output,size:=hI.size,keep:=hI.keep,nb:=hnb.trans hI.nb,ng:=hng.trans hI.ng
         bx:=λn cells' h=>by
          obtain⟨cells,h0,hl,hc⟩:=hbx n cells' h;obtain⟨g1,g2,cs,e,g3,g4,g5⟩:=hI.bx n _ h0;refine⟨g1,by rw[hb];exact g2,cs,e,by rw[hb];exact g3,by omega,λk v' hk=> ?_⟩
          grind
         gh:=λr x h=>by
          rcases hg r x h with ⟨rfl,_⟩| ⟨_,h'⟩
          ·exact hI.gh _ _ ht
          ·exact hI.gh _ _ h'
         tr:=λq sz rs h=>by
          rcases fB q sz rs h with ⟨m,rfl,hm⟩| ⟨hnu,hgn,rs0,h0,hl0,hc0⟩
          ·grind
          ·obtain⟨h1,h2⟩:=hI.tr q _ _ h0;rw[hκ q hnu,hβ q hnu];refine⟨by omega,λhk=>⟨(h2 hk).1,?_⟩⟩;obtain⟨_,cs,e,g1,g2,g3,g4⟩:=h2 hk;refine⟨cs,e,by rw[hβ q hnu];exact g1,by rw[hβ q hnu,hκ q hnu];exact g2,g3,λa r ha=> ?_⟩;obtain⟨r1,a1,a2,a3⟩:=hc0 a r ha;obtain⟨b1,b2⟩:=g4 a r1 a1;refine⟨by omega,λb y hy=> ?_⟩;obtain⟨y0,c1,c2⟩:=a3 b y hy;rw[hβ q hnu];rcases c2 with ⟨rfl,rfl,rfl,rfl⟩| ⟨c2,c3⟩
           ·grind
           ·obtain⟨c,d1,d2⟩:=b2 b y0 c1;exact⟨c,d1,(c3 c d2).mono (hκ _ c2) (hβ _ c2)⟩
         inj:=λq q' s1 rs s2 rs' h h' hk hk' he=>by
          rcases fB q s1 rs h with ⟨m,rfl,hm⟩| ⟨hnu,hgn,rs0,h0,_⟩<;>rcases fB q' s2 rs' h' with ⟨m',rfl,hm'⟩| ⟨hnu',hgn',rs0',h0',_⟩
          ·grind
          ·grind
          ·grind
          ·rw[hκ _ hnu] at hk;rw[hκ _ hnu'] at hk';rw[hβ _ hnu,hβ _ hnu'] at he;exact hI.inj _ _ _ _ _ _ h0 h0' hk hk' he
         bbinj:=λn m c c' h h' he=>by obtain⟨c0,h0⟩:=box0 n c h;obtain⟨c1,h1⟩:=box0 m c' h';rw[hb] at he;exact hI.bbinj _ _ _ _ h0 h1 he
         bbtr:=λn c q sz rs h h' hk=>by
          obtain⟨c0,h0⟩:=box0 n c h;rw[hb];rcases fB q sz rs h' with ⟨m,rfl,hm⟩| ⟨hnu,hgn,rs0,hl,_⟩
          ·exact ((hin m _ _ hm).2 hk).2.2.1 n _ h0
          ·rw[hκ _ hnu] at hk;rw[hβ _ hnu];exact hI.bbtr _ _ _ _ _ h0 hl hk
         alt:=λb h=>hI.alt b (by rw[hA] at h;exact h)
         atr:=λq sz rs h hk=>by
          rw[hA];rcases fB q sz rs h with ⟨m,rfl,hm⟩| ⟨hnu,hgn,rs0,hl,_⟩
          ·exact ((hin m _ _ hm).2 hk).2.2.2.1
          ·rw[hκ _ hnu] at hk;rw[hβ _ hnu];exact hI.atr _ _ _ hl hk
         abb:=λn c h=>by obtain⟨c0,h0⟩:=box0 n c h;rw[hA,hb];exact hI.abb _ _ h0 }
end
end
section
open Go Go.RowKit
section
variable {P:Program} {w0 w:World} {W:Nat->Prop} {bt:Bt} {S:St} {a:Act}
theorem T.go_take{s:Nat}{rows:List (List T)}{n:Nat}{m:List (Nat×Nat)}{sz:Nat}{rs:List (List T)}(h: (T.sl s (rows.take n)).go m= .sl sz rs):
  (m= [] /\sz=s/\rs=rows.take n)\/(m≠ [] /\(T.sl s rows).go m= .sl sz rs):=by
 cases m with
 |nil=>simp_all [T.go]
 |cons x m=>
  obtain⟨i,j⟩:=x;obtain⟨_,rws,r,y,he,h1,h2,h3⟩:=T.go_cons_sl (t:=T.sl s (rows.take n)) (i:=i) (j:=j) (l:=m) (by rw[h];simp);simp only[T.sl.injEq] at he;obtain⟨_,rfl⟩:=he;rw[h] at h3;refine .inr ⟨by simp,?_⟩;rw[bn] at h1;split at h1
  ·show ((rows.getD i []).getD j .dd).go m=_
   grind
  ·cases h1
theorem pP(p:dM)(hE:ER w bt S a){bt':Bt}(hA:bt'.A=bt.A)(hb:bt'.bb=bt.bb)(hnb:bt'.nb=bt.nb)(hng:bt'.ng=bt.ng)(hβ: ∀x,¬js p x->bt'.β x=bt.β x)(hκ: ∀x,¬js p x->bt'.κ x=bt.κ x)
  {S':St} (he:S'.env=λt=>kill p (S.env t)) (hn:S'.nt=S.nt):ER w bt' S' a:=
 ⟨by rw[hn];exact hE.1,λt=>by rw[he];exact (qH hA hb hnb hng hβ hκ (hE.2 t)).1⟩
theorem BE{bt:Bt}{p:dM}{q:Nat}(m:List (Nat×Nat)): (bt.move p q).β ⟨p.r,p.l++m⟩=bt.β ⟨q,m⟩/\(bt.move p q).κ ⟨p.r,p.l++m⟩=bt.κ ⟨q,m⟩:=by simp_all [js,Bt.move]
structure yX [dE] (w0:World) (W:Nat->Prop) (bt:Bt) (S:St) (a:Act) (w:World) (p:dM) (szp i j:Nat) (prows:List (List T)) (r0:List T) (bt':Bt) (S':St):Prop where
 inv:eh w0 W bt' S' w
 er:ER w bt' S' a
 fz:S'.fz=S.fz
 ng:S'.ng=S.ng
 A:bt'.A=bt.A
 bb:bt'.bb=bt.bb
 nb:bt'.nb=bt.nb
 bng:bt'.ng=bt.ng
 other: ∀x:dM,x.r≠p.r->bt'.β x=bt.β x/\bt'.κ x=bt.κ x
 same: ∀x:dM,¬js (p.sub i j) x->bt'.β x=bt.β x/\bt'.κ x=bt.κ x
 look: ∃X,S'.look p= .sl szp (prows.set i (r0.set j X))
 gone: ∀r,r<S.fz->S'.gh r=none->S.gh r=none
theorem qQ(p:dM)(i j:Nat): ¬js (p.sub i j) p:=by
 rintro⟨_,m,hm⟩
 simp_all [dM.sub]
theorem sf[dE](hI:eh w0 W bt S w)(hE:ER w bt S a){p:dM}{i j sz szp:Nat}{prows:List (List T)}{r0:List T}{av:AV}{S':St}{cs:Array Value}{e:TypeId}{c:Value}
  (hp:S.look p= .sl szp prows) (hi:prows[i]? =some r0) (hj:j<r0.length) (_hk:0<bt.κ p) (hfz:S.fz<=p.r) (hh:w.heap[(bt.β p).1]? =some (.cells cs e (0,0))) (hc:cs[(bt.β p).2+(i*szp+j)]? =some c)
  (hv: ∀q s lo len,av= .own q s lo len->q.r≠p.r->VR w bt av c) (hem:av= .em->VR w bt av c) (h:gU S p i j sz av=some S'):
  ∃bt',yX w0 W bt S a w p szp i j prows r0 bt' S'\/(bt'=bt/\S'=S):=by
 obtain⟨t,ht,htp⟩: ∃t,S.gh p.r=some t/\t.go p.l= .sl szp prows:=by grind [St.look]
 have hilt:i<prows.length:=(ai.1 hi).1
 have lookp: ∀ (X:T) (g:Nat->Option T),g p.r=some (t.put (p.l++ [(i,j)]) X)-> ∀env bx,({ S with env:=env,bx:=bx,gh:=g }:St).look p= .sl szp (prows.set i (r0.set j X)):=by
  intro X g hg env bx;unfold St.look;simp only[hg]
  have : ∀ (l:List (Nat×Nat)) (t:T),t.go l= .sl szp prows->(t.put (l++ [(i,j)]) X).go l= .sl szp (prows.set i (r0.set j X)):=by
   intro l
   induction l with
   |nil=>grind [T.go,T.put]
   |cons x l ih=>
    obtain⟨a,b⟩:=x;intro t h;obtain⟨sz0,rows0,r1,y,rfl,h1,h2,h3⟩:=T.go_cons_sl (t:=t) (i:=a) (j:=b) (l:=l) (by rw[h];simp);rw[h] at h3;have ha:a<rows0.length:=(ai.1 h1).1;have hb:b<r1.length:=(ai.1 h2).1;simp only[cG,T.put,aB,h1,aV,h2];show (((rows0.set a (r1.set b (y.put (l++ [(i,j)]) X))).getD a []).getD b .dd).go l=_
    grind
  exact this p.l t htp
 unfold gU at h;split at h
 ·rename_i q s lo len;split at h
  ·rename_i hcond;obtain⟨hql,rfl,rfl,hqfz,hqp⟩:=hcond;simp only[ah] at h;obtain⟨rows,hrows,h⟩:=h;split at h
   ·rename_i hlen;simp only[af] at h;subst h;have hlookq:=fw hrows;have hq:q=⟨q.r,[]⟩:=by obtain⟨qr,ql⟩:=q;simp only at hql;rw[hql]
    have hvr:=hv q s 0 len rfl hqp
    obtain⟨tq,htq,htql⟩: ∃tq,S.gh q.r=some tq/\tq= .sl s rows:=by
     unfold St.look at hlookq;split at hlookq
     ·rename_i tq htq;rw[hql] at hlookq;exact⟨tq,htq,hlookq⟩
     ·cases hlookq
    have src: ∀m sz rs,(T.sl s (rows.take len)).go m= .sl sz rs-> ∃rs0,S.look ⟨q.r,m⟩= .sl sz rs0/\rs.length<=rs0.length/\ ∀ (a:Nat) (r:List T),rs[a]? =some r->rs0[a]? =some r:=by
     intro m sz rs hm;have hl:S.look ⟨q.r,m⟩=(T.sl s rows).go m:=by unfold St.look;rw[htq,htql]
     rcases T.go_take hm with ⟨rfl,rfl,rfl⟩| ⟨_,h'⟩
     ·grind
     ·grind
    have hnu: ∀x,¬js (p.sub i j) x->(bt.move (p.sub i j) q.r).β x=bt.β x/\(bt.move (p.sub i j) q.r).κ x=bt.κ x:=λx hx=>by simp[Bt.move,hx]
    have hmv: ∀m,(bt.move (p.sub i j) q.r).β ⟨p.r,p.l++ [(i,j)] ++m⟩=bt.β ⟨q.r,m⟩/\(bt.move (p.sub i j) q.r).κ ⟨p.r,p.l++ [(i,j)] ++m⟩=bt.κ ⟨q.r,m⟩:=λm=>BE (p:=p.sub i j) m
    have hgp: ∀t0,S.gh p.r=some t0->dQ (dQ (S.killU (p.sub i j)).gh q.r none) p.r ((S.gh p.r).map λt=>t.put (p.l++ [(i,j)]) (.sl s (rows.take len))) p.r=some (t0.put (p.l++ [(i,j)]) (.sl s (rows.take len))):=by intro t0 h0;simp[dQ,h0]
    have hinv:=hI.regraft (bt':=bt.move (p.sub i j) q.r) (p:=p) (i:=i) (j:=j) (szp:=szp) (prows:=prows) (r0:=r0) (X:=.sl s (rows.take len)) (s:=s) (xrows:=rows.take len)
     (g:=dQ (dQ (S.killU (p.sub i j)).gh q.r none) p.r ((S.gh p.r).map λt=>t.put (p.l++ [(i,j)]) (.sl s (rows.take len))))
     (env:=(S.killU (p.sub i j)).env) (bx:=(S.killU (p.sub i j)).bx) hp hi hj rfl
     (λr t' hr=>by
       unfold dQ at hr;split at hr
       ·grind
       ·rename_i he;split at hr
        ·cases hr
        ·exact .inr ⟨he,hr⟩)
     hgp rfl rfl rfl rfl (λx hx=>(hnu x hx).1) (λx hx=>(hnu x hx).2)
     (λ_ cs' e' hh'=>by
       rw[hh] at hh';simp only[af,Obj.cells.injEq] at hh';obtain⟨rfl,_⟩:=hh';refine⟨c,hc,?_⟩;obtain⟨m1,m2⟩:=hmv [];simp only[bP] at m1 m2;rw[hq] at hvr;cases hvr with
       |own h1 h2 h3 h4=>
        rename_i aa cap;have hl: (rows.take len).length=len:=by simp;omega
        rw[show (Value.slice aa len cap)=Value.slice aa (rows.take len).length cap by rw[hl]]
        exact .sl (by omega) (by show cap<=(bt.move (p.sub i j) q.r).κ ⟨p.r,p.l++ [(i,j)]⟩;rw[m2];omega) (λh0=>by show aa=some ⟨((bt.move (p.sub i j) q.r).β ⟨p.r,p.l++ [(i,j)]⟩).1,((bt.move (p.sub i j) q.r).β ⟨p.r,p.l++ [(i,j)]⟩).2,none⟩;rw[m1];simpa using h4 h0))
     (λn cells' hn=>by simp only[St.killU,aj] at hn;obtain⟨cells,h0,rfl⟩:=hn;refine⟨cells,h0,by simp,λk v' hk'=> ?_⟩;simp only[aw,aj] at hk';obtain⟨v,hk',rfl⟩:=hk';exact⟨v,hk',λu hu=>(qH (bt:=bt) (bt':=bt.move (p.sub i j) q.r) rfl rfl rfl rfl (λx hx=>(hnu x hx).1) (λx hx=>(hnu x hx).2) hu).2.2⟩)
     (λm sz rs hm=>by
       obtain⟨rs0,h0,hl0,hsub⟩:=src m sz rs hm;obtain⟨b1,b2⟩:=hmv m;rw[b1,b2];obtain⟨h1,h2⟩:=hI.tr _ _ _ h0;refine⟨by omega,λhk'=>⟨(h2 hk').1,?_,λn cs hn=>hI.bbtr _ _ _ _ _ hn h0 hk',hI.atr _ _ _ h0 hk',λx s' rs' hx hg hnx hkx he=> ?_,λm' sz' rows' hm' hk'' he=> ?_⟩⟩
       ·obtain⟨_,cs',e',g1,g2,g3,g4⟩:=h2 hk';refine⟨cs',e',by rw[b1];exact g1,by rw[b1,b2];exact g2,g3,λa r ha=> ?_⟩;obtain⟨k1,k2⟩:=g4 a r (hsub a r ha);refine⟨k1,λb x hb=> ?_⟩;obtain⟨c',n1,n2⟩:=k2 b x hb;refine⟨c',by rw[b1];exact n1,?_⟩;have hm2:=hmv (m++ [(a,b)]);have eqp: (⟨p.r,p.l++ [(i,j)] ++m⟩:dM).sub a b=⟨p.r,p.l++ [(i,j)] ++(m++ [(a,b)])⟩:=by simp[dM.sub]
        rw[eqp];cases n2 with
        |sc h=>exact .sc h
        |dd=>exact .dd _
        |sl hc1 hk1 ha1=>exact .sl hc1 (by rw[hm2.2];exact hk1) (by rw[hm2.1];exact ha1)
       ·have:=hI.inj _ _ _ _ _ _ hx h0 hkx hk' he
        grind [dQ]
       ·obtain⟨rs1,h01,_,_⟩:=src m' sz' rows' hm';obtain⟨b3,b4⟩:=hmv m';rw[b4] at hk'';rw[b3] at he;have:=hI.inj _ _ _ _ _ _ h01 h0 hk'' hk' he;simpa using this)
    refine⟨bt.move (p.sub i j) q.r,.inl ?_⟩
    exact { inv:=hinv
            er:=pP (bt':=bt.move (p.sub i j) q.r) (p.sub i j) hE rfl rfl rfl rfl (λx hx=>(hnu x hx).1) (λx hx=>(hnu x hx).2) rfl rfl
            fz:=rfl,ng:=rfl,A:=rfl,bb:=rfl,nb:=rfl,bng:=rfl
            other:=λx hx=>hnu x (λhu=>hx hu.1)
            same:=hnu
            look:=⟨_,lookp _ _ (hgp t ht) _ _⟩
            gone:=λr hr hg=>by
             have hg':dQ (dQ S.gh q.r none) p.r ((S.gh p.r).map λt=>t.put (p.l++ [(i,j)]) (.sl s (rows.take len))) r=none:=hg
             grind [dQ] }
   ·cases h
  ·cases h
 ·simp only[af] at h;subst h;have hnu: ∀x,¬js (p.sub i j) x->(bt.clear (p.sub i j)).β x=bt.β x/\(bt.clear (p.sub i j)).κ x=bt.κ x:=λx hx=>by simp[Bt.clear,hx]
  have hmv: ∀m,(bt.clear (p.sub i j)).κ ⟨p.r,p.l++ [(i,j)] ++m⟩=0:=λm=>by
   have :js (p.sub i j) ⟨p.r,p.l++ [(i,j)] ++m⟩:=⟨rfl,m,rfl⟩
   show (if js (p.sub i j) _ then 0 else _)=0;rw[if_pos this]
  have hgp: ∀t0,S.gh p.r=some t0->((S.killU (p.sub i j)).setAt (p.sub i j) (.sl sz [])).gh p.r=some (t0.put (p.l++ [(i,j)]) (.sl sz [])):=by intro t0 h0;simp[St.setAt,St.killU,dQ,dM.sub,h0]
  have hinv:=hI.regraft (bt':=bt.clear (p.sub i j)) (p:=p) (i:=i) (j:=j) (szp:=szp) (prows:=prows) (r0:=r0) (X:=.sl sz []) (s:=sz) (xrows:=[])
   (g:=((S.killU (p.sub i j)).setAt (p.sub i j) (.sl sz [])).gh) (env:=(S.killU (p.sub i j)).env) (bx:=(S.killU (p.sub i j)).bx) hp hi hj rfl
   (λr t' hr=>by
     simp only[St.setAt,St.killU,dQ,dM.sub] at hr
     grind)
   hgp rfl rfl rfl rfl (λx hx=>(hnu x hx).1) (λx hx=>(hnu x hx).2)
   (λ_ cs' e' hh'=>by
     rw[hh] at hh';simp only[af,Obj.cells.injEq] at hh';obtain⟨rfl,_⟩:=hh';refine⟨c,hc,?_⟩;have:=hem rfl;cases this with
     |em aa=>exact .sl (rows:=[]) (az 0) (bO _) (λh0=>absurd h0 (dA 0)))
   (λn cells' hn=>by simp only[St.killU,aj] at hn;obtain⟨cells,h0,rfl⟩:=hn;refine⟨cells,h0,by simp,λk v' hk'=> ?_⟩;simp only[aw,aj] at hk';obtain⟨v,hk',rfl⟩:=hk';exact⟨v,hk',λu hu=>(qH (bt:=bt) (bt':=bt.clear (p.sub i j)) rfl rfl rfl rfl (λx hx=>(hnu x hx).1) (λx hx=>(hnu x hx).2) hu).2.2⟩)
   (λm sz' rs hm=>by
     rw[hmv m];refine⟨?_,λh0=>absurd h0 (dA 0)⟩;cases m with
     |nil=>simp_all [T.go]
     |cons x m=>
      obtain⟨a,b⟩:=x;obtain⟨_,rws,r,y,he,h1,_⟩:=T.go_cons_sl (t:=T.sl sz []) (i:=a) (j:=b) (l:=m) (by rw[hm];simp)
      grind)
  refine⟨bt.clear (p.sub i j),.inl ?_⟩
  exact { inv:=hinv
          er:=pP (bt':=bt.clear (p.sub i j)) (p.sub i j) hE rfl rfl rfl rfl (λx hx=>(hnu x hx).1) (λx hx=>(hnu x hx).2) rfl rfl
          fz:=rfl,ng:=rfl,A:=rfl,bb:=rfl,nb:=rfl,bng:=rfl
          other:=λx hx=>hnu x (λhu=>hx hu.1)
          same:=hnu
          look:=⟨_,lookp _ _ (hgp t ht) _ _⟩
          gone:=λr hr hg=>by
           simp only[St.setAt,St.killU,dQ,dM.sub] at hg
           grind }
 grind
end
end
section
open Go Go.RowKit
section
variable {P:Program} {w0 w:World} {W:Nat->Prop} {bt:Bt} {S:St} {a:Act}
def Tk(w:World)(bt:Bt)(p:dM)(x:AV)(c:Value):Prop:=(∀q s lo len,x= .own q s lo len->q.r≠p.r->VR w bt x c)/\(x= .em->VR w bt x c)
theorem Tk.of_VR{p:dM}{x:AV}{c:Value}(h:VR w bt x c):Tk w bt p x c:=⟨λ_ _ _ _ _ _=>h,λ_=>h⟩
theorem Tk.mono{bt':Bt}{p:dM}{x:AV}{c:Value}(h:Tk w bt p x c)(hng:bt'.ng=bt.ng)(ho: ∀x:dM,x.r≠p.r->bt'.β x=bt.β x/\bt'.κ x=bt.κ x):Tk w bt' p x c:=by
 refine⟨λq s lo len he hq=> ?_,λhe=> ?_⟩
 ·have:=h.1 q s lo len he hq;subst he;cases this with
  |own h1 h2 h3 h4=>exact .own (by rw[hng];exact h1) h2 (by rw[(ho q hq).2];exact h3) (by rw[(ho q hq).1];exact h4)
 ·have:=h.2 he;subst he;cases this with
  |em b=>exact .em b
theorem jL[dE](p:dM)(i szp:Nat)(cs:Array Value)(e:TypeId): ∀ (vs:List AV) (ss:List Nat) (j:Nat) (bt:Bt) (S S':St) (prows:List (List T)) (r0:List T),
  eh w0 W bt S w->ER w bt S a->S.look p= .sl szp prows->prows[i]? =some r0->j+vs.length<=r0.length->0<bt.κ p->S.fz<=p.r->w.heap[(bt.β p).1]? =some (.cells cs e (0,0))->
  (∀ (k:Nat) (x:AV),vs[k]? =some x-> ∃c,cs[(bt.β p).2+(i*szp+(j+k))]? =some c/\Tk w bt p x c)->dV S p i j ss vs=some S'->
  ∃bt',eh w0 W bt' S' w/\ER w bt' S' a/\S'.fz=S.fz/\S'.ng=S.ng/\(∀x:dM,x.r≠p.r->bt'.β x=bt.β x/\bt'.κ x=bt.κ x)/\bt'.β p=bt.β p/\bt'.κ p=bt.κ p/\bt'.ng=bt.ng/\(∃prows' r1,S'.look p= .sl szp prows'/\prows'.length=prows.length/\prows'[i]? =some r1/\r1.length=r0.length/\ ∀i',i'≠i->prows'[i']? =prows[i']?)/\
   ∀r,r<S.fz->S'.gh r=none->S.gh r=none:=by
 intro vs
 induction vs with
 |nil=>
  intro ss j bt S S' prows r0 hI hE hp hi hj hk hfz hh hc h
  have :S'=S:=by cases ss<;>simp only[dV,af] at h<;>exact h.symm
  subst this;exact⟨bt,hI,hE,rfl,rfl,λ_ _=>⟨rfl,rfl⟩,rfl,rfl,rfl,⟨prows,r0,hp,rfl,hi,rfl,λ_ _=>rfl⟩,λ_ _ h=>h⟩
 |cons v vs ih=>
  intro ss j bt S S' prows r0 hI hE hp hi hj hk hfz hh hc h;cases ss with
  |nil=>simp only[dV,af] at h;subst h;exact⟨bt,hI,hE,rfl,rfl,λ_ _=>⟨rfl,rfl⟩,rfl,rfl,rfl,⟨prows,r0,hp,rfl,hi,rfl,λ_ _=>rfl⟩,λ_ _ h=>h⟩
  |cons sz ss=>
   simp only[dV,ah] at h;obtain⟨S1,h1,h2⟩:=h;simp only[bD] at hj
   have rest: ∀ (k:Nat) (x:AV),vs[k]? =some x-> ∃c,cs[(bt.β p).2+(i*szp+(j+1+k))]? =some c/\Tk w bt p x c:=by intro k x hk;obtain⟨c,g1,g2⟩:=hc (k+1) x (by simpa using hk);exact⟨c,by grind,g2⟩
   have stay:S1=S-> ∃bt',eh w0 W bt' S' w/\ER w bt' S' a/\S'.fz=S.fz/\S'.ng=S.ng/\(∀x:dM,x.r≠p.r->bt'.β x=bt.β x/\bt'.κ x=bt.κ x)/\bt'.β p=bt.β p/\bt'.κ p=bt.κ p/\bt'.ng=bt.ng/\(∃prows' r1,S'.look p= .sl szp prows'/\prows'.length=prows.length/\prows'[i]? =some r1/\r1.length=r0.length/\ ∀i',i'≠i->prows'[i']? =prows[i']?)/\
     ∀r,r<S.fz->S'.gh r=none->S.gh r=none:=by
    rintro rfl
    exact ih ss (j+1) bt S1 S' prows r0 hI hE hp hi (by omega) hk hfz hh rest h2
   split at h1
   ·grind
   ·obtain⟨c,g1,g2⟩:=hc 0 v rfl;obtain⟨bt1,hg| ⟨_,rfl⟩⟩:=sf hI hE hp hi (by omega) hk hfz hh g1 g2.1 g2.2 h1
    ·obtain⟨X,hX⟩:=hg.look;have hpp:=hg.same p (qQ p i j)
     have hi': (prows.set i (r0.set j X))[i]? =some (r0.set j X):=by rw[bH];simp[(ai.1 hi).1]
     obtain⟨bt2,a1,a2,a3,a4,a5,a6,a7,a8,⟨pr',r1,b1,b2,b3,b4,b5⟩,a9⟩:=ih ss (j+1) bt1 S1 S' _ _ hg.inv hg.er hX hi' (by simp;omega) (by rw[hpp.2];exact hk) (by rw[hg.fz];exact hfz) (by rw[hpp.1];exact hh)
      (λk x hk'=>by obtain⟨c',m1,m2⟩:=rest k x hk';exact⟨c',by rw[hpp.1];exact m1,m2.mono hg.bng hg.other⟩) h2
     refine⟨bt2,a1,a2,a3.trans hg.fz,a4.trans hg.ng,λx hx=>⟨(a5 x hx).1.trans (hg.other x hx).1,(a5 x hx).2.trans (hg.other x hx).2⟩,a6.trans hpp.1,a7.trans hpp.2,a8.trans hg.bng,⟨pr',r1,b1,by rw[b2];simp,b3,by rw[b4];simp,λi' hi''=> ?_⟩,λr hr hn=>hg.gone r hr (a9 r (by rw[hg.fz];exact hr) hn)⟩
     grind
    ·exact stay rfl
theorem tD[dE](hI:eh w0 W bt S w)(hE:ER w bt S a){t:TypeId}{i:TypeInfo}(hi:P.info? t=some i)(hpos:0<P.cellsOf t){av v:AV}{ad u:Value}{S':St}(ha:VR w bt av ad)(hv:VR w bt v u)(h:store P S t av v=some S'):
  ∃w' bt',(Instr.storeAt t ad u).run P w= .ok () w'/\eO w0 W bt S a bt' S' w':=by
 unfold store at h;simp only at h;split at h
 ·cases h
 ·rename_i hn
  have hsz:v.cells.length=P.cellsOf t:=by
   by_cases h1:v.cells.length=P.cellsOf t
   ·exact h1
   ·exact absurd (Or.inl h1) hn
  have hd:v.isDead=false:=by
   cases hv':v.isDead with
   |false=>rfl
   |true=>exact absurd (Or.inr hv') hn
  split at h
  ·rename_i b j;simp only[ah] at h;obtain⟨cells0,hb,h⟩:=h;split at h
   ·rename_i hle;simp only[af] at h;subst h;cases ha<;>grind [rd]
   ·cases h
  ·rename_i p sz i' j;simp only[ah] at h;obtain⟨S1,h1,h⟩:=h;cases ha with
   |ptrT sz i' j hp hk=>
    obtain⟨w',g1,g2,g3,rows,cs,e,g4,g5,g6,g7,g8,g9⟩:=pB hI hE hi hv hd hsz hpos h1;split at h
    ·grind
    ·split at h
     ·rename_i hfz
      have hlook:S1.look p= .sl sz (rows.set i' ((rows.getD i' []).take j++v.cells.map T.ofSc++(rows.getD i' []).drop (j+v.cells.length))):=by
       rw[g7,ir,if_pos rfl];have hp':=g4;unfold St.look at hp';split at hp'
       ·grind [T.put_self]
       ·cases hp'
      have hrow: (rows.set i' ((rows.getD i' []).take j++v.cells.map T.ofSc++(rows.getD i' []).drop (j+v.cells.length)))[i']? =some ((rows.getD i' []).take j++v.cells.map T.ofSc++(rows.getD i' []).drop (j+v.cells.length)):=by rw[bH];simp[g5]
      obtain⟨bt',a1,a2,a3,a4,a5,a6,a7,a8,_,a9⟩:=jL p i' sz cs e v.cells (gk P 9 t) j bt S1 S' _ _ g2.inv g2.er hlook hrow (by grind)
       (by omega) (by rw[g2.fz];exact hfz) g8 (λk x hk'=>by grind [Tk.of_VR]) h
      refine⟨w',bt',g1,⟨a1,a2,a3.trans g2.fz,trivial,by rw[a4];exact g2.ng,λx hx=>a5 x (by omega),λr hr hn=>g2.gone r hr (a9 r (by rw[g2.fz];exact hr) hn)⟩⟩
     ·cases h
  ·cases h
end
end
section
open Go Go.RowKit
section
variable {P:Program} {w0 w w':World} {W:Nat->Prop} {bt:Bt} {S:St} {a:Act}
structure AK (w0:World) (W:Nat->Prop) (bt:Bt) (S:St) (b:Nat):Prop where
 ours:w0.heap.size<=b\/W b
 bx: ∀n cs,S.bx n=some cs->bt.bb n≠b
 tr: ∀p sz rows,S.look p= .sl sz rows->0<bt.κ p->(bt.β p).1≠b
 A: ¬bt.A b
structure iE (w0:World) (W:Nat->Prop) (bt:Bt) (S:St) (w w':World):Prop where
 os:w'.os=w.os
 tape:w'.tape=w.tape
 output:w'.output=w.output
 size:w.heap.size<=w'.heap.size
 block: ∀b,b<w.heap.size->w'.heap[b]? =w.heap[b]? \/AK w0 W bt S b
theorem iE.of_below(h:Below w.heap.size w w'):iE w0 W bt S w w':=⟨h.os,h.tape,h.output,h.size,λb hb=> .inl (h.block b hb)⟩
theorem iE.A[dE](h:iE w0 W bt S w w')(hI:eh w0 W bt S w): ∀b,bt.A b->w'.heap[b]? =w.heap[b]? :=λb hb=>by
 rcases h.block b (hI.alt b hb) with h|h
 ·exact h
 ·exact absurd hb h.A
theorem eh.change[dE](hI:eh w0 W bt S w)(h:iE w0 W bt S w w'):eh w0 W bt S w':=
 { good:=hI.good,os:=h.os.trans hI.os,tape:=h.tape.trans hI.tape,output:=h.output.trans hI.output,size:=aX hI.size h.size
   keep:=λb hb hW=>by
    rcases h.block b (aM hb hI.size) with h|h
    ·exact h.trans (hI.keep b hb hW)
    ·rcases h.ours with h|h
     ·omega
     ·exact absurd h hW
   nb:=hI.nb,ng:=hI.ng
   bx:=λn cells hn=>by
    obtain⟨h1,h2,h3⟩:=hI.bx n cells hn;refine⟨h1,h2,h3.mono (Bt.le.refl _) (by rw[hI.nb];exact h1) (h.A hI) ?_⟩;rcases h.block _ (hI.bblt hn) with h|h
    ·exact h
    ·exact absurd rfl (h.bx _ _ hn)
   gh:=hI.gh
   tr:=λp sz rows hp=>by
    obtain⟨h1,h2⟩:=hI.tr p sz rows hp;refine⟨h1,λhk=>⟨(h2 hk).1,(h2 hk).2.mono (Bt.le.refl _) (hI.look_lt hp) ?_⟩⟩;rcases h.block _ (hI.βlt hp hk) with h|h
    ·exact h
    ·exact absurd rfl (h.tr _ _ _ hp hk)
   inj:=hI.inj,bbinj:=hI.bbinj,bbtr:=hI.bbtr
   alt:=λb hb=>aM (hI.alt b hb) h.size
   atr:=hI.atr,abb:=hI.abb }
theorem km{sz:Nat}{rows:List (List T)}{p:dM}{s:Nat}{rs:List (List T)}(h: (gv [.sl sz rows]).look p= .sl s rs):
  p.r=0/\((p.l= [] /\s=sz/\rs=rows)\/ ∃i j l r x,p.l=(i,j)::l/\rows[i]? =some r/\r[j]? =some x/\x.go l= .sl s rs):=by
 unfold St.look gv at h;simp only at h;obtain⟨r,l⟩:=p;cases r with
 |succ r=>simp at h
 |zero=>
  refine⟨rfl,?_⟩;simp only[aJ] at h;cases l with
  |nil=>simp_all [T.go]
  |cons x l=>
   obtain⟨i,j⟩:=x;obtain⟨sz',rows',r,x,e,h1,h2,h3⟩:=T.go_cons_sl (t:=.sl sz rows) (i:=i) (j:=j) (l:=l) (by rw[h];simp)
   grind
theorem za(S:St)(t:T):S.add [t] = { S with gh:=dQ S.gh S.ng (some t),ng:=S.ng+1 } :=by
 unfold St.add dQ
 grind
theorem qL[dE](hI:eh w0 W bt S w)(hE:ER w bt S a)(hfz:S.fz<=S.ng)(hch:iE w0 W bt S w w'){sz:Nat}{rows:List (List T)}(btn:Bt)
  (htr: ∀p s rs,(gv [.sl sz rows]).look p= .sl s rs->rs.length<=btn.κ p/\(0<btn.κ p->(w0.heap.size<=(btn.β p).1\/W (btn.β p).1)/\yT w' btn p s rs))
  (hinj: ∀p q s rows' s' rows'',(gv [.sl sz rows]).look p= .sl s rows'->(gv [.sl sz rows]).look q= .sl s' rows''->0<btn.κ p->0<btn.κ q->(btn.β p).1=(btn.β q).1->p=q)
  (hsep: ∀p s rs,(gv [.sl sz rows]).look p= .sl s rs->0<btn.κ p->(∀n cs,S.bx n=some cs->bt.bb n≠(btn.β p).1)/\(∀q s rs,S.look q= .sl s rs->0<bt.κ q->(bt.β q).1≠(btn.β p).1)/\ ¬bt.A (btn.β p).1):
  ∃bt',eO w0 W bt S a bt' { S with gh:=dQ S.gh S.ng (some (.sl sz rows)),ng:=S.ng+1 } w'/\bt.le bt'/\bt'.ng=S.ng+1/\bt'.β ⟨S.ng,[]⟩=btn.β ⟨0,[]⟩/\bt'.κ ⟨S.ng,[]⟩=btn.κ ⟨0,[]⟩:=by
 have h:=(hI.change hch).addRoots btn [.sl sz rows] htr hinj hsep;rw[za] at h;have hle:=Bt.le_add bt btn 1;have e0: (if bt.ng<=S.ng then (0:Nat) else 1)=0:=by rw[if_pos (by rw[hI.ng];exact az _)]
 refine⟨_,⟨h,⟨hE.1,λt=>(hE.2 t).mono hle (hch.A hI)⟩,rfl,trivial,cL _,λp hp=>⟨hle.β p (by rw[hI.ng];omega),hle.κ p (by rw[hI.ng];omega)⟩,λr hr hn=> ?_⟩,hle,?_,?_,?_⟩
 ·simp only[dQ] at hn
  rwa [if_neg (by omega)] at hn
 ·show bt.ng+1=S.ng+1;rw[hI.ng]
 ·show (if bt.ng<=S.ng then btn.β ⟨S.ng-bt.ng,[]⟩ else _)=_;rw[hI.ng,if_pos (az _),c9]
 ·show (if bt.ng<=S.ng then btn.κ ⟨S.ng-bt.ng,[]⟩ else _)=_;rw[hI.ng,if_pos (az _),c9]
inductive CR:T->Value->Prop where
 |sc {v:Value} (h:gG v=true):CR (.sc v) v
 |dd (u:Value):CR .dd u
 |em (sz:Nat) (a:Option Addr):CR (.sl sz []) (.slice a 0 0)
theorem CR.hr{x:T}{c:Value}(h:CR x c)(bt:Bt)(p:dM):HR bt p x c:=by
 cases h with
 |sc h=>exact .sc h
 |dd=>exact .dd _
 |em sz a=>exact .sl (rows:=[]) (az _) (bO _) (λh=>absurd h (by omega))
theorem CR.go{x:T}{c:Value}(h:CR x c){l:List (Nat×Nat)}{s:Nat}{rs:List (List T)}(hg:x.go l= .sl s rs):rs= [] :=by
 cases h with
 |sc h=>
  cases l with
  |nil=>cases hg
  |cons y l=>rw[T.sc_go] at hg;cases hg
 |dd u=>rw[T.dd_go] at hg;cases hg
 |em sz a=>cases l<;>grind [T.go,T.cell,T.dd_go]
theorem CR.ofSc{x:AV}{c:Value}(h:VR w bt x c):CR (T.ofSc x) c:=by
 cases h with
 |sc h=>exact .sc h
 | _=>exact .dd _
theorem mc[dE](hI:eh w0 W bt S w)(hE:ER w bt S a)(hfz:S.fz<=S.ng)(hb:Below w.heap.size w w'){sz cap:Nat}{rows:List (List T)}{cs:Array Value}{e:TypeId}
  (hh:w'.heap[w.heap.size]? =some (.cells cs e (0,0))) (hcap:rows.length<=cap) (hsz:cap*sz<=cs.size) (hone: ∀ (k:Nat) (u:Value),cs[k]? =some u->u.oneCell'=true)
  (hrow: ∀ (i:Nat) (r:List T),rows[i]? =some r->r.length=sz/\ ∀ (j:Nat) (x:T),r[j]? =some x-> ∃c,cs[i*sz+j]? =some c/\CR x c):
  ∃bt',eO w0 W bt S a bt' { S with gh:=dQ S.gh S.ng (some (.sl sz rows)),ng:=S.ng+1 } w'/\bt.le bt'/\bt'.ng=S.ng+1/\bt'.β ⟨S.ng,[]⟩=(w.heap.size,0)/\bt'.κ ⟨S.ng,[]⟩=cap:=by
 obtain⟨f1,f2,f3⟩:=hI.fresh (b:=w.heap.size) (az _)
 have hκ: ∀p s rs,(gv [.sl sz rows]).look p= .sl s rs->0< (if p.l= [] then cap else 0)->p=⟨0,[]⟩/\s=sz/\rs=rows:=by
  intro p s rs h hk;obtain⟨h0,h1⟩:=km h;split at hk
  ·rename_i hl;obtain⟨pr,pl⟩:=p
   grind
  ·omega
 have:=qL hI hE hfz (iE.of_below hb) (sz:=sz) (rows:=rows) { bt with β:=λ_=>(w.heap.size,0),κ:=λp=>if p.l= [] then cap else 0 }
  (λp s rs h=>by
    obtain⟨h0,h1⟩:=km h;refine⟨?_,λhk=> ?_⟩
    ·rcases h1 with ⟨hl,_,rfl⟩| ⟨i,j,l,r,x,hl,h2,h3,h4⟩
     ·simp only[hl,if_true];exact hcap
     ·obtain⟨_,g2⟩:=hrow i r h2;obtain⟨c,_,g3⟩:=g2 j x h3;rw[g3.go h4];exact bO _
    ·obtain⟨rfl,rfl,rfl⟩:=hκ _ _ _ h hk;refine⟨.inl hI.size,cs,e,hh,⟨by simpa using hsz,.inl rfl⟩,hone,λi r hi=> ?_⟩;obtain⟨g1,g2⟩:=hrow i r hi;refine⟨g1,λj x hj=> ?_⟩;obtain⟨c,g3,g4⟩:=g2 j x hj;exact⟨c,by rw[aP];exact g3,g4.hr _ _⟩)
  (λp q s rs s' rs' h h' hk hk' _=>by grind)
  (λp s rs h hk=>⟨f1,f2,f3⟩)
 simpa using this
theorem ib{bt':Bt}{n:Nat}(hng:bt'.ng=n+1){sz len cap b:Nat}(hβ:bt'.β ⟨n,[]⟩=(b,0))(hκ:bt'.κ ⟨n,[]⟩=cap)(hl:len<=cap):VR w' bt' (.own ⟨n,[]⟩ sz 0 len) (.slice (some ⟨b,0,none⟩) len cap):=
 .own (by show n<_;omega) hl (by omega) (λ_=>by rw[hβ,bQ])
theorem kA{e:TypeId}{z:List T}(h:mL P e=some z): ∃zs,lV P e=some zs/\zs.length=P.cellsOf e/\z.length=P.cellsOf e/\ ∀ (j:Nat) (x:T),z[j]? =some x-> ∃c,zs[j]? =some c/\CR x c:=by
 unfold mL at h;simp only[ah] at h;obtain⟨zs,h1,h2⟩:=h;split at h2
 ·rename_i hc;simp only[af] at h2;subst h2;refine⟨zs,h1,hc.1,by simp[hc.1,hc.2],λj x hj=> ?_⟩;rw[bi] at hj;split at hj
  ·rename_i s v e1 e2;simp only[af] at hj;subst hj;refine⟨v,e2,?_⟩;unfold zc;split
   ·exact .em _ _
   ·split
    ·exact .sc ‹_›
    ·exact .dd _
  ·cases hj
 ·cases h2
theorem jw[dE](hI:eh w0 W bt S w)(hE:ER w bt S a)(hfz:S.fz<=S.ng){t el:TypeId}{z:List T}{kl kc:IntKind}{n:Int}(hel:i8 P t=some el)(hz:mL P el=some z)(h0:0<=n)
  (hby:P.bytesOf el*n<=2 ^ 40) (hn:n<=2 ^ 40):
  ∃u w' bt',(Instr.makeSlice t (.int kl n) (.int kc n)).run P w= .ok u w'/\
   eO w0 W bt S a bt' { S with gh:=dQ S.gh S.ng (some (.sl (P.cellsOf el) (List.replicate n.toNat z))),ng:=S.ng+1 } w'/\bt.le bt'/\VR w' bt' (.own ⟨S.ng,[]⟩ (P.cellsOf el) 0 n.toNat) u:=by
 obtain⟨zs,h1,h2,h3,h4⟩:=kA hz;obtain⟨i,zv,hi,hzv,rfl,hall⟩:=fS h1;have hb:P.bytesOf el=i.bytes:=by simp[Program.bytesOf,hi]
 have hs:P.cellsOf el=i.size:=by simp[Program.cellsOf,hi]
 have hrun:=run_make (P:=P) w t el i zv (eY hel) hi hzv kl kc n n h0 (cW _) (by rw[hb] at hby;omega) (by omega);have hzl:zv.cells.size=P.cellsOf el:=by simpa using h2
 have mk: ∀ (r j:Nat),r<n.toNat->j<P.cellsOf el->(madeCells zv.cells (n.toNat*i.size))[r*P.cellsOf el+j]? =zv.cells[j]? :=by
  intro r j hr hj
  have hlt:r*P.cellsOf el+j<n.toNat*i.size:=by rw[<-hs];have : (r+1)*P.cellsOf el<=n.toNat*P.cellsOf el:=bz _ hr;rw[bB] at this;omega
  have hmod: (r*P.cellsOf el+j) % zv.cells.size=j:=by rw[hzl,bX,cB,dj hj]
  simp only[madeCells];rw[dx,dk,if_pos hlt];simp only[aF,hmod];rw[aR (by omega),getElem!_pos zv.cells j (by omega)]
 obtain⟨bt',g1,g2,g3,g4,g5⟩:=mc (cap:=n.toNat) (sz:=P.cellsOf el) (rows:=List.replicate n.toNat z) (cs:=madeCells zv.cells (n.toNat*i.size)) (e:=el) hI hE hfz (fW w (.cells _ el)) (iy w _) (by simp) (by rw[size_madeCells,hs];exact az _)
  (λk u hk=>by grind [madeCells,Nat.mod_lt])
  (λr row hr=>by grind)
 exact⟨_,_,bt',hrun,g1,g2,ib g3 g4 g5 (az _)⟩
theorem pj[dE](hI:eh w0 W bt S w)(hE:ER w bt S a)(hfz:S.fz<=S.ng){t tn ty el:TypeId}{kn kq:IntKind}{z:List T}{n:Int}{ab:Option Addr}(hel:i8 P t=some el)(htn:P.underlying tn=some (.int kn))(hz:mL P el=some z)(h0:0<n)
  (hby:P.bytesOf el*n<=2 ^ 40) (hn:n<=2 ^ 40) (hpos:0<P.cellsOf el):
  ∃u w' bt',(Builtin.append_ #[t,tn] ty #[.slice ab 0 0,.int kq n]).run P w= .ok u w'/\
   eO w0 W bt S a bt' { S with gh:=dQ S.gh S.ng (some (.sl (P.cellsOf el) (List.replicate n.toNat z))),ng:=S.ng+1 } w'/\VR w' bt' (.own ⟨S.ng,[]⟩ (P.cellsOf el) 0 n.toNat) u:=by
 obtain⟨zs,h1,h2,h3,h4⟩:=kA hz;obtain⟨i,zv,hi,hzv,rfl,hall⟩:=fS h1;have hb:P.bytesOf el=i.bytes:=by simp[Program.bytesOf,hi]
 have hs:P.cellsOf el=i.size:=by simp[Program.cellsOf,hi]
 obtain⟨k,rfl⟩:=Int.eq_ofNat_of_zero_le (Int.le_of_lt h0);have hk0:0<k:=by omega
 have hkb:k*i.bytes<=2 ^ 40:=by
  rw[hb,<-Int.natCast_mul] at hby;have : ((i.bytes*k:Nat):Int)<=((2 ^ 40:Nat):Int):=by simpa using hby
  rw[Nat.mul_comm];exact Int.ofNat_le.1 this
 have hold: (Builtin.firstCells i.size 0 (.slice ab 0 0)).run P w.drew= .ok ([]:List Value).toArray w.drew:=by cases ab<;>simp[Builtin.firstCells,loadCells,loadCellsFrom]
 have hrun:=Go.Lib.run_append_grow_zeros (P:=P) w t tn ty el i zv kq kn (eY hel) htn hi hzv ab 0 0 [] hold k hk0 (by rw[<-hs];exact hpos) (by omega) (by omega) (by omega) (by rw[aP,nextslicecap_zero hk0];omega);simp only[aP] at hrun;have hge:=grownCap_ge w k 0 el;generalize grownCap w k 0 el=c at hrun hge;have hzl:zv.cells.size=P.cellsOf el:=by simpa using h2
 have hzp:0<zv.cells.size:=by rw[hzl];exact hpos
 have hmem: ∀ (m q:Nat) (u:Value),(Builtin.zeroCells zv.cells m)[q]? =some u->u=zv.cells[q % zv.cells.size]'(Nat.mod_lt _ hzp)/\q<m*zv.cells.size:=by
  intro m q u hu;unfold Builtin.zeroCells at hu;rw[dx,dk] at hu;split at hu
  ·grind
  ·cases hu
 have hsize: ((#[]:Array Value)++Builtin.zeroCells zv.cells k++Builtin.zeroCells zv.cells (c-k)).size=c*P.cellsOf el:=by
  simp only[Array.size_append,size_zeroCells,hzl];have :c*P.cellsOf el=k*P.cellsOf el+(c-k)*P.cellsOf el:=by rw[<-bB];congr 1;omega
  rw[this];simp
 have hwb:Below w.heap.size w (w.drew.alloc (.cells ((#[]:Array Value)++Builtin.zeroCells zv.cells k++Builtin.zeroCells zv.cells (c-k)) el)):=
  ⟨rfl,rfl,rfl,by simp_all,λq hq=>by show (w.heap.push _)[q]? =_;simp[Array.getElem?_push,Nat.ne_of_lt hq]⟩
 obtain⟨bt',g1,g2,g3,g4,g5⟩:=mc (cap:=c) (sz:=P.cellsOf el) (rows:=List.replicate k z) (cs:=(#[]:Array Value)++Builtin.zeroCells zv.cells k++Builtin.zeroCells zv.cells (c-k)) (e:=el) hI hE hfz hwb (by show (w.heap.push _)[w.heap.size]? =_;simp) (by simpa using hge) (by rw[hsize];exact az _)
  (λq u hq=>by grind)
  (λr row hr=>by
    rw[da] at hr;split at hr
    ·rename_i hlt;simp only[af] at hr;subst hr;refine⟨h3,λj x hx=> ?_⟩;obtain⟨cv,k1,k2⟩:=h4 j x hx;have hj:j<P.cellsOf el:=by rw[<-h3];exact (ai.1 hx).1
     have hlt2:r*P.cellsOf el+j<k*zv.cells.size:=by rw[hzl];have : (r+1)*P.cellsOf el<=k*P.cellsOf el:=bz _ hlt;rw[bB] at this;omega
     have hmod: (r*P.cellsOf el+j) % zv.cells.size=j:=by rw[hzl,bX,cB,dj hj]
     refine⟨cv,?_,k2⟩;rw[Array.empty_append,bZ (by rw[size_zeroCells];exact hlt2)];unfold Builtin.zeroCells
     grind
    ·cases hr)
 grind [ib]
theorem eh.more[dE](hI:eh w0 W bt S w){A:Nat->Prop}(hA: ∀b,bt.A b->A b)(hlt: ∀b,A b->b<w.heap.size)(hn: ∀b,A b->bt.A b\/((∀n cs,S.bx n=some cs->bt.bb n≠b)/\ ∀p s rs,S.look p= .sl s rs->0<bt.κ p->(bt.β p).1≠b)):
  eh w0 W { bt with A:=A } S w/\bt.le { bt with A:=A } :=by
 have hle:bt.le { bt with A:=A } :=⟨az _,az _,hA,λ_ _=>rfl,λ_ _=>rfl,λ_ _=>rfl⟩
 refine⟨{ good:=hI.good,os:=hI.os,tape:=hI.tape,output:=hI.output,size:=hI.size,keep:=hI.keep,nb:=hI.nb,ng:=hI.ng
          bx:=λn cells h=>by obtain⟨h1,h2,h3⟩:=hI.bx n cells h;exact⟨h1,h2,h3.mono hle (by rw[hI.nb];exact h1) (λ_ _=>rfl) rfl⟩
          gh:=hI.gh
          tr:=λp s rs h=>by obtain⟨h1,h2⟩:=hI.tr p s rs h;exact⟨h1,λhk=>⟨(h2 hk).1,(h2 hk).2.mono hle (hI.look_lt h) rfl⟩⟩
          inj:=hI.inj,bbinj:=hI.bbinj,bbtr:=hI.bbtr,alt:=hlt
          atr:=λp s rs h hk ha=>by
           rcases hn _ ha with h'|h'
           ·exact hI.atr p s rs h hk h'
           ·exact h'.2 p s rs h hk rfl
          abb:=λn cs h ha=>by
           rcases hn _ ha with h'|h'
           ·exact hI.abb n cs h h'
           ·exact h'.1 n cs h rfl },hle⟩
end
end
section
open Go Go.RowKit
section
variable {P:Program} {w0 w w':World} {W:Nat->Prop} {bt:Bt} {S:St} {a:Act}
theorem qE[dE](p:dM)(szp:Nat)(cs:Array Value)(e:TypeId)(ss:List Nat)(len:Nat): ∀ (parts:List (Nat×List AV)) (bt:Bt) (S S':St) (prows:List (List T)),
  eh w0 W bt S w->ER w bt S a->S.look p= .sl szp prows->prows.length=len->(∀ (i:Nat) (r:List T),prows[i]? =some r->r.length=szp)->0<bt.κ p->S.fz<=p.r->w.heap[(bt.β p).1]? =some (.cells cs e (0,0))->
  (∀x∈parts,x.1<len/\x.2.length=szp/\ ∀ (k:Nat) (v:AV),x.2[k]? =some v-> ∃c,cs[(bt.β p).2+(x.1*szp+k)]? =some c/\Tk w bt p v c)->
  parts.foldlM (λ(S':St) x=>dV S' p x.1 0 ss x.2) S=some S'->
  ∃bt',eh w0 W bt' S' w/\ER w bt' S' a/\S'.fz=S.fz/\S'.ng=S.ng/\(∀x:dM,x.r≠p.r->bt'.β x=bt.β x/\bt'.κ x=bt.κ x)/\bt'.β p=bt.β p/\bt'.κ p=bt.κ p/\bt'.ng=bt.ng/\ ∀r,r<S.fz->S'.gh r=none->S.gh r=none:=by
 intro parts
 induction parts with
 |nil=>grind
 |cons x parts ih=>
  intro bt S S' prows hI hE hp hl hr hk hfz hh hc h;simp only[List.foldlM_cons,cX,ah] at h;obtain⟨S1,h1,h2⟩:=h;obtain⟨c1,c2,c3⟩:=hc x aK;have hi:prows[x.1]? =some (prows[x.1]'(by omega)):=aq _;have hrl:=hr _ _ hi
  obtain⟨bt1,a1,a2,a3,a4,a5,a6,a7,a8,⟨pr',r1,b1,b2,b3,b4,b5⟩,a9⟩:=jL p x.1 szp cs e x.2 ss 0 bt S S1 prows _ hI hE hp hi (by omega) hk hfz hh (λk v hk'=>by grind) h1
  obtain⟨bt2,d1,d2,d3,d4,d5,d6,d7,d8,d9⟩:=ih bt1 S1 S' pr' a1 a2 b1 (by omega) (λi r hi'=>by
    grind) (by rw[a7];exact hk) (by rw[a3];exact hfz) (by rw[a6];exact hh) (λy hy=>by
    obtain⟨e1,e2,e3⟩:=hc y (aI _ hy);refine⟨e1,e2,λk v hk'=> ?_⟩;obtain⟨c,g1,g2⟩:=e3 k v hk';exact⟨c,by rw[a6];exact g1,g2.mono a8 a5⟩) h2
  grind
theorem lW{α:Type}: ∀ (l:List (Nat×α)) (n:Nat),l.map (·.1)=List.range' n l.length->((l.map (·.2)).zipIdx n).map (λx=>(x.2,x.1))=l
 | [],n,_=>rfl
 |x::l,n,h=>by simp only[aO,bD,cq,bu] at h;simp only[aO,List.zipIdx_cons,aO];rw[lW l (n+1) h.2,<-h.1]
theorem ii(hE:ER w bt S a){t el:TypeId}{len:Nat}{parts:Array (Nat×Operand)}(hel:i8 P t=some el)(h20:len*P.cellsOf el<=2 ^ 20)
  (hix:parts.toList.map (·.1)=List.range len) (hpos:0<P.cellsOf el) (hz: (lV P el).isSome=true) (hall:parts.toList.all (λx=>(opd S x.2).cells.length=P.cellsOf el&& !(opd S x.2).isDead)=true):
  ∃cs:Array Value,(Instr.buildSlice t len (parts.map λx=>(x.1,a.eval x.2))).run P w= .ok (.slice (some ⟨w.heap.size,0,none⟩) len len) { w with heap:=w.heap.push (.cells cs el (0,0)) } /\cs.size=len*P.cellsOf el/\
   (∀ (r:Nat) (x:Nat×Operand) (j:Nat) (v:AV),parts.toList[r]? =some x->(opd S x.2).cells[j]? =some v-> ∃c,cs[r*P.cellsOf el+j]? =some c/\VR w bt v c/\c.oneCell'=true)/\ ∀ (k:Nat) (u:Value),cs[k]? =some u->u.oneCell'=true:=by
 obtain⟨zs,hz⟩:=aY.1 hz;obtain⟨i,zv,hi,hzv,rfl,hza⟩:=fS hz;have hs:P.cellsOf el=i.size:=by simp[Program.cellsOf,hi]
 have hpl:parts.toList.length=len:=by have:=congrArg List.length hix;simpa using this
 have hpart: ∀ (r:Nat) (x:Nat×Operand),parts.toList[r]? =some x->x.1=r/\(opd S x.2).cells.length=P.cellsOf el/\(opd S x.2).isDead=false:=by
  intro r x hx;refine⟨?_,?_⟩
  ·have h1: (parts.toList.map (·.1))[r]? =some x.1:=by rw[aw,hx];rfl
   grind
  ·grind
 have hvs: ∀v∈parts.toList.map (λx=>a.eval x.2),v.cells.size=P.cellsOf el:=by intro v hv;obtain⟨x,hx,rfl⟩:=aG.1 hv;obtain⟨r,hr,hxr⟩:=aU hx;obtain⟨_,h1,h2⟩:=hpart r x (by grind);rw[(iW (dP hE x.2) h2).1,h1]
 have hrun: ∃cs:Array Value,(Instr.buildSlice t len (parts.map λx=>(x.1,a.eval x.2))).run P w= .ok (.slice (some ⟨w.heap.size,0,none⟩) len len) { w with heap:=w.heap.push (.cells cs el (0,0)) } /\cs.size=len*P.cellsOf el/\
   ∀k,cs[k]? =((parts.toList.map (λx=>a.eval x.2))[k / P.cellsOf el]?).bind (λv=>v.cells[k % P.cellsOf el]?):=by
  have hf:Instr.fill (λi=>some (i*P.cellsOf el,P.cellsOf el)) ((Array.range (len*P.cellsOf el)).map (zv.cells[· % zv.cells.size]!)) (parts.map λx=>(x.1,a.eval x.2)).toList=some ((parts.toList.map (λx=>a.eval x.2)).flatMap λv=>v.cells.toList).toArray:=by
   have:=Go.Great.fill_whole hpos (parts.toList.map (λx=>a.eval x.2)) ((Array.range (len*P.cellsOf el)).map (zv.cells[· % zv.cells.size]!)) hvs (by simp;rw[<-hpl];simp);rw[<-this]
   congr 1
   have h2:=lW (parts.toList.map λx=>(x.1,a.eval x.2)) 0 (by
    rw[ba];have : ((λx:Nat×Value=>x.1)∘λx:Nat×Operand=>(x.1,a.eval x.2))=(λx=>x.1):=rfl
    grind [List.range_eq_range'])
   rw[Array.toList_map,<-h2,ba];rfl
  refine⟨((parts.toList.map (λx=>a.eval x.2)).flatMap λv=>v.cells.toList).toArray,?_,?_,λk=> ?_⟩
  ·rcases bo len with h0|h0
   ·simp_all [Instr.buildSlice,run_underlying,eY,sizeOf,typeInfo,newRow,Array.range_zero']
   ·rw[hs] at hf;have:=run_buildSlice (P:=P) w t el len (parts.map λx=>(x.1,a.eval x.2)) _ i zv (eY hel) hi hzv (by rw[<-hs];omega) (by rw[<-hs];have:=Nat.mul_pos h0 hpos;omega) hf;rw[this];rfl
  ·rw[de]
   have : ∀ (l:List Value),(∀v∈l,v.cells.size=P.cellsOf el)->(l.flatMap λv=>v.cells.toList).length=l.length*P.cellsOf el:=by
    intro l
    induction l with
    |nil=>intro _;simp
    |cons v l ih=>grind
   rw[this _ hvs];simp[<-hpl]
  ·rw[cf,Go.Great.flat_get hpos _ hvs k]
 obtain⟨cs,hrun,hcs,hget⟩:=hrun
 have dm: ∀ (r j:Nat),j<P.cellsOf el->(r*P.cellsOf el+j) / P.cellsOf el=r/\(r*P.cellsOf el+j) % P.cellsOf el=j:=by
  intro r j hj;constructor
  ·rw[bX,Nat.add_mul_div_right _ _ hpos,Nat.div_eq_of_lt hj,aP]
  ·rw[bX,cB,dj hj]
 have hcell: ∀ (r:Nat) (x:Nat×Operand) (j:Nat) (v:AV),parts.toList[r]? =some x->(opd S x.2).cells[j]? =some v-> ∃c,cs[r*P.cellsOf el+j]? =some c/\VR w bt v c/\c.oneCell'=true:=by
  intro r x j v hx hv;obtain⟨_,h1,h2⟩:=hpart r x hx;obtain⟨_,_,h3⟩:=iW (dP hE x.2) h2;obtain⟨c,k1,k2,k3⟩:=h3 j v hv;have hj:j<P.cellsOf el:=by rw[<-h1];exact (ai.1 hv).1
  refine⟨c,?_,k2,k3⟩;rw[hget,(dm r j hj).1,(dm r j hj).2,aw,hx];exact k1
 refine⟨cs,hrun,hcs,hcell,λk u hk=> ?_⟩;rw[hget] at hk;simp only[ah,aw,aj] at hk;obtain⟨v,⟨x,hx,rfl⟩,hu⟩:=hk;obtain⟨_,_,h2⟩:=hpart _ x hx;obtain⟨_,h3,_⟩:=iW (dP hE x.2) h2
 grind
theorem l7[dE](hI:eh w0 W bt S w)(hE:ER w bt S a)(hfz:S.fz<=S.ng){t el:TypeId}{len:Nat}{parts:Array (Nat×Operand)}{S2:St}(hel:i8 P t=some el)(h20:len*P.cellsOf el<=2 ^ 20)
  (hix:parts.toList.map (·.1)=List.range len) (hpos:0<P.cellsOf el) (hz: (lV P el).isSome=true) (hall:parts.toList.all (λx=>(opd S x.2).cells.length=P.cellsOf el&& !(opd S x.2).isDead)=true)
  (hg: (if (gk P 9 el).all (· ==0) then some { S with gh:=dQ S.gh S.ng (some (.sl (P.cellsOf el) (parts.toList.map λx=>(opd S x.2).cells.map T.ofSc))),ng:=S.ng+1 }
    else parts.toList.foldlM (λS' x=>dV S' ⟨S.ng,[]⟩ x.1 0 (gk P 9 el) (opd S x.2).cells) { S with gh:=dQ S.gh S.ng (some (.sl (P.cellsOf el) (parts.toList.map λx=>(opd S x.2).cells.map T.ofSc))),ng:=S.ng+1 })=some S2):
  ∃u w' bt',(Instr.buildSlice t len (parts.map λx=>(x.1,a.eval x.2))).run P w= .ok u w'/\eO w0 W bt S a bt' S2 w'/\VR w' bt' (.own ⟨S.ng,[]⟩ (P.cellsOf el) 0 len) u/\((gk P 9 el).all (· ==0)=true->bt.le bt'):=by
 obtain⟨cs,hrun,hcs,hcell,hone⟩:=ii (P:=P) (w:=w) (bt:=bt) hE hel h20 hix hpos hz hall
 have hpl:parts.toList.length=len:=by have:=congrArg List.length hix;simpa using this
 have hpart: ∀ (r:Nat) (x:Nat×Operand),parts.toList[r]? =some x->x.1=r/\(opd S x.2).cells.length=P.cellsOf el/\(opd S x.2).isDead=false:=by
  intro r x hx;refine⟨?_,?_⟩
  ·have h1: (parts.toList.map (·.1))[r]? =some x.1:=by rw[aw,hx];rfl
   grind
  ·grind
 obtain⟨bt',g1,g2,g3,g4,g5⟩:=mc (cap:=len) (sz:=P.cellsOf el) (rows:=parts.toList.map λx=>(opd S x.2).cells.map T.ofSc) (cs:=cs) (e:=el) hI hE hfz (fW w (.cells cs el)) (iy w _) (by simp[<-hpl]) (by rw[hcs];exact az _)
  hone
  (λr row hr=>by
    simp only[aw,aj] at hr;obtain⟨x,hx,rfl⟩:=hr;obtain⟨_,h1,h2⟩:=hpart r x hx;refine⟨by simpa using h1,λj y hy=> ?_⟩;simp only[aw,aj] at hy;obtain⟨v,hv,rfl⟩:=hy
    grind [CR.ofSc])
 split at hg
 ·simp only[af] at hg;subst hg;exact⟨_,_,bt',hrun,g1,ib g3 g4 g5 (az _),λ_=>g2⟩
 ·rename_i hfl;rcases bo len with h0|h0
  ·have hp0:parts.toList= [] :=bc (by rw[hpl,h0]);rw[hp0] at hg;simp only[List.foldlM_nil,Option.pure_def,af] at hg;subst hg;rw[hp0] at g1;exact⟨_,_,bt',hrun,g1,ib g3 g4 g5 (az _),λh=>absurd h hfl⟩
  ·have hmap:parts.toList.foldlM (λS' x=>dV S' ⟨S.ng,[]⟩ x.1 0 (gk P 9 el) (opd S x.2).cells) { S with gh:=dQ S.gh S.ng (some (.sl (P.cellsOf el) (parts.toList.map λx=>(opd S x.2).cells.map T.ofSc))),ng:=S.ng+1 } =
     (parts.toList.map λx=>(x.1,(opd S x.2).cells)).foldlM (λS' x=>dV S' ⟨S.ng,[]⟩ x.1 0 (gk P 9 el) x.2) { S with gh:=dQ S.gh S.ng (some (.sl (P.cellsOf el) (parts.toList.map λx=>(opd S x.2).cells.map T.ofSc))),ng:=S.ng+1 } :=by
    rw[List.foldlM_map]
   rw[hmap] at hg
   obtain⟨bt2,d1,d2,d3,d4,d5,d6,d7,d8,d9⟩:=qE (a:=a) ⟨S.ng,[]⟩ (P.cellsOf el) cs el (gk P 9 el) len (parts.toList.map λx=>(x.1,(opd S x.2).cells)) bt' _ S2 (parts.toList.map λx=>(opd S x.2).cells.map T.ofSc) g1.inv g1.er
    (by simp[St.look,dQ,T.go]) (by simp[<-hpl]) (λr row hr=>by
      grind) (by rw[g5];exact h0) (by rw[g1.fz];exact hfz) (by rw[g4];exact iy w _) (λy hy=>by
      obtain⟨x,hx,rfl⟩:=aG.1 hy;obtain⟨r,hr,hxr⟩:=aU hx;have hx':parts.toList[r]? =some x:=by rw[<-hxr];exact aq hr
      obtain⟨e1,e2,e3⟩:=hpart r x hx';refine⟨by simp only;omega,e2,λk v hk=> ?_⟩;obtain⟨c,k1,k2,_⟩:=hcell r x k v hx' hk;refine⟨c,by simp only;rw[e1,g4,aP];exact k1,Tk.of_VR (k2.mono g2 ?_)⟩;intro b hb;exact (fW w (.cells cs el)).block b (hI.alt b hb)) hg
   refine⟨_,_,bt2,hrun,⟨d1,d2,d3,trivial,by rw[d4];exact cL _,λp hp=> ?_,λr hr hn=>g1.gone r hr (d9 r hr hn)⟩,ib (by rw[d8,g3]) (by rw[d6,g4]) (by rw[d7,g5]) (az _),λh=>absurd h hfl⟩;have:=d5 p (by show p.r≠S.ng;omega);have h2:=g1.keep p hp
   grind
theorem lh{A:Nat->Prop}(hA: ∀b,bt.A b->A b)(hw: ∀b,bt.A b->w'.heap[b]? =w.heap[b]?): ∀ (ss:List Nat) (vs:List AV) (r:List T),pC ss vs=some r->r.length=vs.length/\ ∀ (j:Nat) (x:T),r[j]? =some x-> ∃v,vs[j]? =some v/\ ∀c,VR w bt v c->RO w' A x c:=by
 intro ss
 induction ss with
 |nil=>
  intro vs r h;cases vs with
  |nil=>simp_all [pC]
  |cons v vs=>cases h
 |cons s ss ih=>
  intro vs r h;cases vs with
  |nil=>cases h
  |cons v vs=>
   simp only[pC,ah,aj] at h;obtain⟨x,h1,xs,h2,rfl⟩:=h;obtain⟨g1,g2⟩:=ih vs xs h2;refine⟨by simp[g1],λj y hy=> ?_⟩;cases j with
   |zero=>
    simp only[aJ,af] at hy;subst hy;refine⟨v,rfl,λc hc=> ?_⟩;cases v with
    |sc q=>simp only[CH,af] at h1;subst h1;cases hc with |sc h=>exact .sc h
    |ro s' rows=>simp only[CH,af] at h1;subst h1;cases hc with |ro h=>exact h.mono hA hw
    |em=>simp only[CH,af] at h1;subst h1;cases hc with |em a=>exact .em _ _ _
    | _=>cases h1
   |succ j=>simpa using g2 j y (by simpa using hy)
theorem uy(ss:List Nat): ∀ (vss:List (List AV)) (rows:List (List T)),jq ss vss=some rows->rows.length=vss.length/\ ∀ (i:Nat) (r:List T),rows[i]? =some r-> ∃vs,vss[i]? =some vs/\pC ss vs=some r:=by
 intro vss
 induction vss with
 |nil=>simp_all [jq]
 |cons vs vss ih=>
  intro rows h;simp only[jq,ah,aj] at h
  grind
theorem kF[dE](hI:eh w0 W bt S w)(hE:ER w bt S a){t el:TypeId}{len:Nat}{parts:Array (Nat×Operand)}(hel:i8 P t=some el)(h20:len*P.cellsOf el<=2 ^ 20)
  (hix:parts.toList.map (·.1)=List.range len) (hpos:0<P.cellsOf el) (hz: (lV P el).isSome=true) (hall:parts.toList.all (λx=>(opd S x.2).cells.length=P.cellsOf el&& !(opd S x.2).isDead)=true) {ss:List Nat} {rows:List (List T)}
  (hr:jq ss (parts.toList.map λx=>(opd S x.2).cells)=some rows):
  ∃u w' bt',(Instr.buildSlice t len (parts.map λx=>(x.1,a.eval x.2))).run P w= .ok u w'/\eO w0 W bt S a bt' S w'/\VR w' bt' (.ro (P.cellsOf el) rows) u:=by
 obtain⟨cs,hrun,hcs,hcell,hone⟩:=ii (P:=P) (w:=w) (bt:=bt) hE hel h20 hix hpos hz hall;obtain⟨q1,q2⟩:=uy ss _ _ hr
 have hpl:parts.toList.length=len:=by have:=congrArg List.length hix;simpa using this
 have hlen:rows.length=len:=by rw[q1,aH,hpl]
 have hb:=fW w (.cells cs el);have hw: ∀b,bt.A b->({ w with heap:=w.heap.push (.cells cs el) }:World).heap[b]? =w.heap[b]? :=λb h=>hb.block b (hI.alt b h)
 obtain⟨h1,hle⟩:=(hI.change (iE.of_below hb)).more (A:=λb=>bt.A b\/b=w.heap.size) (λb h=> .inl h) (λb h=>by
  rcases h with h|h
  ·exact aM (hI.alt b h) hb.size
  ·subst h;simp) (λb h=>by
  rcases h with h|h
  ·exact .inl h
  ·have:=hI.fresh (b:=b) (by omega);exact .inr ⟨this.1,this.2.1⟩)
 have hcut: ∀ (i:Nat) (r:List T),rows[i]? =some r-> ∃x,parts.toList[i]? =some x/\pC ss (opd S x.2).cells=some r:=by intro i r hi;obtain⟨vs,k1,k2⟩:=q2 i r hi;rw[aw] at k1;simp only[aj] at k1;obtain⟨x,k1,rfl⟩:=k1;exact⟨x,k1,k2⟩
 refine⟨_,_,_,hrun,⟨h1,⟨hE.1,λt=>(hE.2 t).mono hle hw⟩,rfl,trivial,az _,λp hp=>⟨rfl,rfl⟩,λr hr h=>h⟩,.ro ?_⟩
 have fB:=RO.sl (w:={ w with heap:=w.heap.push (.cells cs el) }) (A:=λb=>bt.A b\/b=w.heap.size) (sz:=P.cellsOf el) (rows:=rows) (ad:=⟨w.heap.size,0,none⟩) (cap:=len) (λi j=>(cs[i*P.cellsOf el+j]?).getD undef) (by rw[hlen];exact az _) rfl (.inr rfl)
  (λi r hi=>by
    obtain⟨x,k1,k2⟩:=hcut i r hi;rw[(lh (w:=w) (w':=w) (bt:=bt) (A:=bt.A) (λb h=>h) (λb _=>rfl) _ _ _ k2).1]
    grind)
  (λi r j x hi hj=>by obtain⟨y,k1,k2⟩:=hcut i r hi;obtain⟨v,k3,_⟩:=(lh (w:=w) (w':=w) (bt:=bt) (A:=bt.A) (λb h=>h) (λb _=>rfl) _ _ _ k2).2 j x hj;obtain⟨c,k4,_⟩:=hcell i y j v k1 k3;rw[Go.Proofs.YtkghndikalnipaaGreat.En.add_lit,gq (iy w _),aP,k4];rfl)
  (λi r j x hi hj=>by
    obtain⟨y,k1,k2⟩:=hcut i r hi;obtain⟨v,k3,k5⟩:=(lh (A:=λb=>bt.A b\/b=w.heap.size) (λb h=> .inl h) hw _ _ _ k2).2 j x hj
    grind)
 rw[hlen] at fB;exact fB
end
end
section
open Go Go.RowKit
section
variable {P:Program} {w0 w w':World} {W:Nat->Prop} {bt:Bt} {S:St} {a:Act}
def yW(bt:Bt)(src:Option dM)(i j:Nat)(y:T)(c:Value):Prop:=match src with
 |some q=>HR bt (q.sub i j) y c
 |none=> ∃v,y= .sc v/\c=v/\gG v=true
structure DH (w:World) (bt:Bt) (S S':St) (sz:Nat) (more:List (List T)) (x:Value) (src:Option dM) (news:List Value):Prop where
 val: (more= [] /\ ∃a c,x= .slice a 0 c)\/(∃ad c,x= .slice (some ad) more.length c/\ ∀ (j:Nat) (u:Value),news[j]? =some u->w.cell? (ad.add j)=some u)
 one: ∀u∈news,u.oneCell'=true
 len:news.length=more.length*sz
 cells: ∀ (i:Nat) (r:List T),more[i]? =some r->r.length=sz/\ ∀ (j:Nat) (y:T),r[j]? =some y-> ∃c,news[i*sz+j]? =some c/\yW bt src i j y c
 gone:S'=(match src with |some q=> { S with gh:=dQ S.gh q.r none } |none=>S)
 root: ∀q,src=some q->q.l= [] /\S.look q= .sl sz more/\S.fz<=q.r
theorem iZ[dE](hI:eh w0 W bt S w){p:dM}{sz lo len:Nat}{rows:List (List T)}(hp:S.look p= .sl sz rows)(hk:0<bt.κ p)(hle:lo+len<=rows.length):
  ∃news:List Value,news.length=len*sz/\(∀u∈news,u.oneCell'=true)/\(∀ (j:Nat) (u:Value),news[j]? =some u->w.cell? ((⟨(bt.β p).1,(bt.β p).2+lo*sz,none⟩:Addr).add j)=some u)/\
   ∀ (i:Nat) (r:List T),((rows.drop lo).take len)[i]? =some r->r.length=sz/\ ∀ (j:Nat) (y:T),r[j]? =some y-> ∃c,news[i*sz+j]? =some c/\HR bt (p.sub (lo+i) j) y c:=by
 obtain⟨h1,h2⟩:=hI.tr _ _ _ hp;obtain⟨_,arr,e,g1,g2,g3,g4⟩:=h2 hk;have hm: (bt.β p).2+(lo+len)*sz<=arr.size:=aX (du (bz _ (by omega)) _) g2.1;rw[bB] at hm
 have hget: ∀k,k<len*sz->((arr.toList.drop ((bt.β p).2+lo*sz)).take (len*sz))[k]? =arr[(bt.β p).2+lo*sz+k]? :=by intro k hk;rw[bn,if_pos hk,bh];simp
 refine⟨(arr.toList.drop ((bt.β p).2+lo*sz)).take (len*sz),by simp;omega,λu hu=> ?_,λj u hj=> ?_,λi r hi=> ?_⟩
 ·grind [List.getElem_of_mem]
 ·grind [add_lit,gq]
 ·rw[bn] at hi;split at hi
  ·rename_i hlt;rw[bh] at hi;obtain⟨k1,k2⟩:=g4 _ _ hi;refine⟨k1,λj y hy=> ?_⟩;obtain⟨c,m1,m2⟩:=k2 j y hy;have hj:j<sz:=by rw[<-k1];exact (ai.1 hy).1
   refine⟨c,?_,m2⟩
   rw[hget (i*sz+j) (by have : (i+1)*sz<=len*sz:=bz _ hlt;rw[bB] at this;omega)]
   grind
  ·cases hi
theorem lT[dE](hI:eh w0 W bt S w){sz:Nat}(hsz:0<sz){av:AV}{x:Value}{more:List (List T)}{S':St}{fl:Bool}(hv:VR w bt av x)(h:source S sz fl av=some (more,S')): ∃src news,DH w bt S S' sz more x src news:=by
 cases hv with
 |em ad=>simp only[source,af,au] at h;obtain⟨rfl,rfl⟩:=h;exact⟨none,[],.inl ⟨rfl,ad,0,rfl⟩,by simp,by simp,λi r hi=>by simp at hi,rfl,λq hq=>by cases hq⟩
 |ro hro=>
  rename_i s rows;simp only[source] at h;split at h
  ·rename_i hc;simp only[af,au] at h;obtain⟨rfl,rfl⟩:=h;obtain⟨rfl,hf⟩:=hc;cases hro with
   |em s ad cap=>exact⟨none,[],.inl ⟨rfl,ad,cap,rfl⟩,by simp,by simp,λi r hi=>by simp at hi,rfl,λq hq=>by cases hq⟩
   |sl cs hcap hs hA hl hr ht=>
    rename_i ad cap
    have dm: ∀ (r j:Nat),j<s->(r*s+j) / s=r/\(r*s+j) % s=j:=by
     intro r j hj;constructor
     ·rw[bX,Nat.add_mul_div_right _ _ hsz,Nat.div_eq_of_lt hj,aP]
     ·rw[bX,cB,dj hj]
    have at': ∀ (k:Nat) (u:Value),((List.range (rows.length*s)).map λk=>cs (k / s) (k % s))[k]? =some u-> ∃r x,rows[k / s]? =some r/\r[k % s]? =some x/\u=cs (k / s) (k % s):=by
     intro k u hk;rw[aw] at hk;by_cases hkl:k<rows.length*s
     ·have : (List.range (rows.length*s))[k]? =some k:=by simp[hkl]
      rw[this] at hk;simp only[aF,af] at hk;have hq:k / s<rows.length:=Nat.div_lt_of_lt_mul (by rw[Nat.mul_comm];exact hkl);have hrow:rows[k / s]? =some rows[k / s] :=aq hq;have hrl:=hl _ _ hrow
      simp_all [Nat.mod_lt]
     ·grind
    refine⟨none,(List.range (rows.length*s)).map λk=>cs (k / s) (k % s),.inr ⟨ad,cap,rfl,λj u hj=> ?_⟩,λu hu=> ?_,by simp,λi r hi=>⟨hl i r hi,λj y hy=> ?_⟩,rfl,λq hq=>by cases hq⟩
    ·obtain⟨r,x,h1,h2,rfl⟩:=at' j u hj
     grind [Nat.div_add_mod]
    ·obtain⟨k,hk,hku⟩:=aU hu;obtain⟨r,x,h1,h2,rfl⟩:=at' k u (by grind);exact (ht _ _ _ _ h1 h2).one
    ·have hj:j<s:=by rw[<-hl i r hi];exact (ai.1 hy).1
     have hil:i<rows.length:=(ai.1 hi).1
     have hlt:i*s+j<rows.length*s:=by have : (i+1)*s<=rows.length*s:=bz _ hil;rw[bB] at this;omega
     refine⟨cs i j,?_,?_⟩
     ·grind
     ·have hfl:=ay.1 (ay.1 hf r (aA hi)) y (aA hy);have hro:=ht i r j y hi hy;generalize cs i j=c at hro ⊢;cases hro with
      |sc h=>exact⟨_,rfl,rfl,h⟩
      | _=>cases hfl
  ·cases h
 |own hp hcap hk ha=>
  rename_i p s lo len ad cap;simp only[source] at h;split at h
  ·rename_i hs;subst hs;simp only[ah] at h;obtain⟨rows,hrows,h⟩:=h;have hlook:=fw hrows;split at h
   ·rename_i hc;obtain⟨_,hl,rfl,rfl,hfz⟩:=hc;simp only[af,au] at h;obtain⟨rfl,rfl⟩:=h;rcases bo rows.length with h0|h0
    ·have :rows= [] :=bc h0;subst this;exact⟨some p,[],.inl ⟨rfl,ad,cap,rfl⟩,by simp,by simp,λi r hi=>by simp at hi,rfl,λq hq=>by cases hq;exact⟨hl,hlook,hfz⟩⟩
    ·have had:=ha (by omega);subst had;obtain⟨news,g1,g2,g3,g4⟩:=iZ hI (lo:=0) (len:=rows.length) hlook (by omega) (by omega);refine⟨some p,news,.inr ⟨_,cap,rfl,g3⟩,g2,g1,λi r hi=> ?_,rfl,λq hq=>by cases hq;exact⟨hl,hlook,hfz⟩⟩;obtain⟨k1,k2⟩:=g4 i r (by grind);refine⟨k1,λj y hy=> ?_⟩;obtain⟨c,m1,m2⟩:=k2 j y hy;rw[aP] at m2;exact⟨c,m1,m2⟩
   ·split at h
    ·rename_i hc;obtain⟨hle,hf⟩:=hc;simp only[af,au] at h;obtain⟨rfl,rfl⟩:=h;have hlen: ((rows.drop lo).take len).length=len:=by simp;omega
     rcases bo len with h0|h0
     ·subst h0;exact⟨none,[],.inl ⟨by simp,ad,cap,rfl⟩,by simp,by simp,λi r hi=>by simp at hi,rfl,λq hq=>by cases hq⟩
     ·have had:=ha (by omega);subst had;obtain⟨news,g1,g2,g3,g4⟩:=iZ hI (lo:=lo) (len:=len) hlook (by omega) hle;refine⟨none,news,.inr ⟨_,cap,by rw[hlen],g3⟩,g2,by rw[hlen];exact g1,λi r hi=> ?_,rfl,λq hq=>by cases hq⟩;obtain⟨k1,k2⟩:=g4 i r hi;refine⟨k1,λj y hy=> ?_⟩;obtain⟨c,m1,m2⟩:=k2 j y hy;refine⟨c,m1,?_⟩;have hfl:=ay.1 (ay.1 hf r (aA hi)) y (aA hy);cases m2 with
      |sc h=>exact⟨_,rfl,rfl,h⟩
      | _=>cases hfl
    ·cases h
  ·cases h
 | _=>simp[source] at h
theorem Di[dE](hI:eh w0 W bt S w){p:dM}{sz:Nat}{rows:List (List T)}(hp:S.look p= .sl sz rows){S1:St}(h:S1=if p.l= [] then { S with gh:=dQ S.gh p.r none } else S.setAt p .dd):
  eh w0 W bt S1 w/\(∀q s rs,S1.look q= .sl s rs-> ¬js p q/\ ∃rs0,S.look q= .sl s rs0)/\S1.env=S.env/\S1.bx=S.bx/\S1.ng=S.ng/\S1.fz=S.fz/\S1.nt=S.nt/\ ∀r,r≠p.r->S1.gh r=S.gh r:=by
 split at h
 ·rename_i hl;subst h;refine⟨hI.drop p.r,λq s rs hq=> ?_,rfl,rfl,rfl,rfl,rfl,λr hr=>by simp[dQ,hr]⟩
  have hne:q.r≠p.r:=by intro he;unfold St.look at hq;simp[dQ,he] at hq
  exact⟨λhu=>hne hu.1,rs,by rw[<-hq];exact (sC hne).symm⟩
 ·subst h;obtain⟨h1,h2⟩:=hI.forget hp;refine⟨h1,λq s rs hq=> ?_,rfl,rfl,rfl,rfl,rfl,λr hr=>by simp[St.setAt,dQ,hr]⟩;obtain⟨a1,rs0,a2,_⟩:=h2 q s rs hq
  exact⟨λhu=>by obtain⟨hr,m,hm⟩:=hu;exact a1 m ⟨hr,hm.symm⟩,rs0,a2⟩
end
end
section
open Go Go.RowKit
section
variable {P:Program} {w0 w w':World} {W:Nat->Prop} {bt:Bt} {S:St} {a:Act}
theorem yz(w:World)(t ty e e':TypeId)(i:TypeInfo)(ht:P.underlying t=some (.slice e))(hi:P.info? e=some i)
  (g O sLen sCap:Nat) (cur:Array Value) (hg:w.heap[g]? =some (.cells cur e' (0,0)))
  (a:Addr) (m c:Nat) (news:List Value) (hl:news.length=m*i.size) (hnews: ∀ (j:Nat) (u:Value),news[j]? =some u->w.cell? (a.add j)=some u) (h1: ∀u∈news,u.oneCell'=true)
  (hroom:sLen+m<=sCap) (hfit:O+sLen*i.size+news.length<=cur.size):
  (Builtin.append_ #[t,t] ty #[.slice (some ⟨g,O,none⟩) sLen sCap,.slice (some a) m c]).run P w=
    .ok (.slice (some ⟨g,O,none⟩) (sLen+m) sCap) (w.setRow g (cur.toList.take (O+sLen*i.size)++news++cur.toList.drop (O+sLen*i.size+news.length)).toArray):=by
 have hf:=run_firstCells_some (P:=P) w i.size m a m c news hl hnews;have hst:=run_storeCells_at P g (O+sLen*i.size) e' news 0 cur w hg (by simpa using hfit) h1;simp only[bI] at hst;simp[Builtin.append_,run_underlying ht,sizeOf,typeInfo,hi,Builtin.lenOf,hroom,hf,Addr.add_lit,hst]
theorem sZ(w:World)(t ty e:TypeId)(i:TypeInfo)(ht:P.underlying t=some (.slice e))(hi:P.info? e=some i)(ab xa:Option Addr)(sLen sCap xc:Nat)(hroom:sLen<=sCap):
  (Builtin.append_ #[t,t] ty #[.slice ab sLen sCap,.slice xa 0 xc]).run P w= .ok (.slice ab sLen sCap) w:=by
 cases xa<;>cases ab<;>simp[Builtin.append_,run_underlying ht,sizeOf,typeInfo,hi,Builtin.lenOf,hroom,Builtin.firstCells,loadCells,loadCellsFrom,storeCells]
theorem wK(w:World)(t ty e:TypeId)(i:TypeInfo)(z:Value)(ht:P.underlying t=some (.slice e))(hi:P.info? e=some i)(hz:i.zero=some z)(ab:Option Addr)
  (a:Addr) (n c:Nat) (news:List Value) (hl:news.length=n*i.size) (hnews: ∀ (j:Nat) (v:Value),news[j]? =some v->w.cell? (a.add j)=some v)
  (h0:0<n) (h63: (n:Int)<=9223372036854775807) (h48:n*i.bytes<=281474976710656):
  (Builtin.append_ #[t,t] ty #[.slice ab 0 0,.slice (some a) n c]).run P w=
    .ok (.slice (some ⟨w.heap.size,0,none⟩) n (grownCap w n 0 e)) (w.drew.alloc (.cells (news.toArray++Builtin.zeroCells z.cells (grownCap w n 0 e-n)) e)):=by
 cases ab with
 |none=>exact run_append_nil w t ty e i z ht hi hz a n c news hl hnews h0 h63 h48
 |some b=>have:=run_append_grow (P:=P) w t ty e i z ht hi hz b 0 0 [] (by simp) (by simp) a n c news hl hnews (by omega) (by simpa using h63) (by rw[aP,nextslicecap_zero h0];exact h48);simpa using this
structure nF (w w':World) (ab:Option Addr) (len cap m sz:Nat) (olds news:List Value) (v:Value) (b:Nat×Nat) (cap':Nat):Prop where
 os:w'.os=w.os
 tape:w'.tape=w.tape
 output:w'.output=w.output
 size:w.heap.size<=w'.heap.size
 block: ∀k,k<w.heap.size->w'.heap[k]? =w.heap[k]? \/(0<cap/\ ∃o,ab=some ⟨k,o,none⟩)
 val: ∃ad,v= .slice ad (len+m) cap'/\(0<cap'->ad=some ⟨b.1,b.2,none⟩)
 le:len+m<=cap'
 root:0<cap'->((b=(w.heap.size,0)\/(0<cap/\ab=some ⟨b.1,b.2,none⟩/\cap'=cap))/\ ∃cs e,w'.heap[b.1]? =some (.cells cs e (0,0))/\b.2+cap'*sz<=cs.size/\(∀ (k:Nat) (u:Value),cs[k]? =some u->u.oneCell'=true)/\
  (∀ (k:Nat) (u:Value),olds[k]? =some u->cs[b.2+k]? =some u)/\ ∀ (k:Nat) (u:Value),news[k]? =some u->cs[b.2+(len*sz+k)]? =some u)
theorem nJ{w:World}{t ty e:TypeId}{i:TypeInfo}{z:Value}(ht:P.underlying t=some (.slice e))(hi:P.info? e=some i)(hz:i.zero=some z)(hzs:z.cells.size=i.size)(hz1: ∀u∈z.cells.toList,u.oneCell'=true)(hpos:0<i.size)
  {ab:Option Addr} {len cap m:Nat} {olds news:List Value} {x:Value} (hle:len<=cap) (hol:olds.length=len*i.size) (hnl:news.length=m*i.size)
  (hcur:0<cap-> ∃g O cur e',ab=some ⟨g,O,none⟩/\w.heap[g]? =some (.cells cur e' (0,0))/\O+cap*i.size<=cur.size/\(∀ (k:Nat) (u:Value),cur[k]? =some u->u.oneCell'=true)/\ ∀ (k:Nat) (u:Value),olds[k]? =some u->cur[O+k]? =some u)
  (hx: (m=0/\ ∃a c,x= .slice a 0 c)\/(∃ad c,x= .slice (some ad) m c/\ ∀ (j:Nat) (u:Value),news[j]? =some u->w.cell? (ad.add j)=some u)) (h1: ∀u∈news,u.oneCell'=true)
  (hn:len+m<=2 ^ 40) (hb: (len+m)*i.bytes<=2 ^ 40):
  ∃v w' b cap',(Builtin.append_ #[t,t] ty #[.slice ab len cap,x]).run P w= .ok v w'/\nF w w' ab len cap m i.size olds news v b cap':=by
 by_cases hm:m=0
 ·subst hm;have hnil:news= [] :=bc (by simpa using hnl);subst hnil
  have : ∃a c,x= .slice a 0 c:=by
   rcases hx with ⟨_,h⟩| ⟨ad,c,h,_⟩
   ·exact h
   ·exact⟨_,_,h⟩
  obtain⟨xa,xc,rfl⟩:=this;rcases bo cap with h0|h0
  ·subst h0;exact⟨_,w,(0,0),0,sZ w t ty e i ht hi ab xa len 0 xc hle,rfl,rfl,rfl,az _,λ_ _=> .inl rfl,⟨ab,by simp,λh=>absurd h (by omega)⟩,by omega,λh=>absurd h (by omega)⟩
  ·obtain⟨g,O,cur,e',rfl,g2,g3,g4,g5⟩:=hcur h0;exact⟨_,w,(g,O),cap,sZ w t ty e i ht hi _ xa len cap xc hle,rfl,rfl,rfl,az _,λ_ _=> .inl rfl,⟨_,by simp,λ_=>rfl⟩,by omega,λ_=>⟨.inr ⟨h0,rfl,rfl⟩,cur,e',g2,g3,g4,g5,by simp⟩⟩
 ·obtain⟨ad,c,rfl,hnews⟩: ∃ad c,x= .slice (some ad) m c/\ ∀ (j:Nat) (u:Value),news[j]? =some u->w.cell? (ad.add j)=some u:=by
   rcases hx with ⟨h,_⟩|h
   ·exact absurd h hm
   ·exact h
  have hz1': ∀ (n k:Nat) (u:Value),(Builtin.zeroCells z.cells n)[k]? =some u->u.oneCell'=true:=by
   intro n k u hu;simp only[Builtin.zeroCells] at hu;rw[dx,dk] at hu;split at hu
   ·simp only[aF,af] at hu;have hlt:k % z.cells.size<z.cells.size:=Nat.mod_lt _ (by omega);rw[getElem!_pos z.cells _ hlt] at hu;subst hu;exact hz1 _ (by simp)
   ·cases hu
  have grown: ∀ (cp:Nat),len+m<=cp->(∀u∈olds,u.oneCell'=true)-> ∃v w' b cap',Result.ok (Value.slice (some ⟨w.heap.size,0,none⟩) (len+m) cp) (w.drew.alloc (.cells (olds.toArray++news.toArray++Builtin.zeroCells z.cells (cp-(len+m))) e))=Result.ok v w'/\
    nF w w' ab len cap m i.size olds news v b cap':=by
   intro cp hcp ho;refine⟨_,_,(w.heap.size,0),cp,rfl,rfl,rfl,rfl,by simp,λk hk=> .inl (heap_alloc_old w.drew _ k hk),⟨_,rfl,λ_=>rfl⟩,hcp,λ_=>⟨.inl rfl,_,e,heap_alloc_new w.drew _,?_,λk u hk=> ?_,λk u hk=> ?_,λk u hk=> ?_⟩⟩
   ·simp only[Array.size_append,de,size_zeroCells,hzs,hol,hnl,<-bB];rw[show len+m+(cp-(len+m))=cp by omega,aP];exact az _
   ·rw[Array.getElem?_append] at hk;split at hk
    ·have :u∈olds++news:=aA (i:=k) (by simpa using hk);rcases bC.1 this with h|h
     ·exact ho u h
     ·exact h1 u h
    ·exact hz1' _ _ _ hk
   ·have hlt:=(ai.1 hk).1;rw[bZ (by simp;omega),bZ (by simpa using hlt)];simpa using hk
   ·have hlt:=(ai.1 hk).1;rw[bZ (by simp;omega),Array.getElem?_append_right (by simp;omega)];simp only[de,hol];rw[show 0+(len*i.size+k)-len*i.size=k by omega];simpa using hk
  have h63: ((len+m:Nat):Int)<=9223372036854775807:=by omega
  rcases bo cap with h0|h0
  ·subst h0;have hl0:len=0:=by omega
   subst hl0;have hon:olds= [] :=bc (by simpa using hol);subst hon;rw[wK w t ty e i z ht hi hz ab ad m c news hnl hnews (by omega) (by simpa using h63) (by simp at hb;omega)];have:=grown (grownCap w m 0 e) (by simpa using grownCap_ge w m 0 e) (by simp);simpa using this
  ·obtain⟨g,O,cur,e',rfl,g2,g3,g4,g5⟩:=hcur h0
   have hoc: ∀ (j:Nat) (u:Value),olds[j]? =some u->w.cell? ((⟨g,O,none⟩:Addr).add j)=some u:=λj u hj=>by rw[Go.Proofs.YtkghndikalnipaaGreat.En.add_lit,gq g2];exact g5 j u hj
   by_cases hroom:len+m<=cap
   ·have hmul: (len+m)*i.size<=cap*i.size:=bz _ hroom;rw[bB] at hmul;have hfit:O+len*i.size+news.length<=cur.size:=by omega
    refine⟨_,_,(g,O),cap,yz w t ty e e' i ht hi g O len cap cur g2 ad m c news hnl hnews h1 hroom hfit,rfl,rfl,rfl,by simp,λk hk=> ?_,⟨_,rfl,λ_=>rfl⟩,hroom,λ_=>⟨.inr ⟨h0,rfl,rfl⟩,_,e',setRow_heap w g cur _ e' _ g2,?_,λk u hk=> ?_,λk u hk=> ?_,λk u hk=> ?_⟩⟩
    ·by_cases hk':k=g
     ·subst hk';exact .inr ⟨h0,_,rfl⟩
     ·exact .inl (setRow_other w g k _ hk')
    ·have : (cur.toList.take (O+len*i.size)++news++cur.toList.drop (O+len*i.size+news.length)).length=cur.size:=by simp only[bL,cR,co,dq];omega
     rw[de,this];exact g3
    ·rw[cf,iK _ _ _ (by simpa using hfit)] at hk;split at hk
     ·exact g4 k u (by simpa using hk)
     ·split at hk
      ·exact h1 u (aA hk)
      ·exact g4 k u (by simpa using hk)
    ·have hlt:=(ai.1 hk).1;rw[cf,iK _ _ _ (by simpa using hfit),if_pos (by omega)];simpa using g5 k u hk
    ·have hlt:=(ai.1 hk).1;rw[cf,iK _ _ _ (by simpa using hfit),if_neg (by simp only;omega),if_pos (by simp only;omega),show O+(len*i.size+k)-(O+len*i.size)=k by omega];exact hk
   ·have ho: ∀u∈olds,u.oneCell'=true:=λu hu=>by
     obtain⟨k,hk,hku⟩:=aU hu;exact g4 _ u (g5 k u (by rw[<-hku];exact aq hk))
    rw[run_append_grow (P:=P) w t ty e i z ht hi hz ⟨g,O,none⟩ len cap olds hol hoc ad m c news hnl hnews (by omega) h63 (growslice_fits (by omega) (by omega))];exact grown _ (grownCap_ge w (len+m) cap e) ho
end
end
section
open Go Go.RowKit
section
variable {P:Program} {w0 w w':World} {W:Nat->Prop} {bt:Bt} {S:St} {a:Act}
def jd(bp src:Option dM)(len:Nat)(x:dM):Option dM:=match x.l with
 | [] =>none
 | (i,j)::l=>if i<len then bp.map λp=>⟨p.r,p.l++(i,j)::l⟩ else src.map λq=>⟨q.r,q.l++(i-len,j)::l⟩
theorem xj{bp src:Option dM}{len:Nat}{x y:dM}(h:jd bp src len x=some y)(i j:Nat):jd bp src len (x.sub i j)=some (y.sub i j):=by
 obtain⟨r,l⟩:=x;cases l with
 |nil=>simp[jd] at h
 |cons z l=>
  obtain⟨i',j'⟩:=z;simp only[jd,dM.sub,cG] at h ⊢;split at h
  ·rename_i hlt;rw[if_pos hlt];simp only[aj] at h ⊢
   grind
  ·rename_i hlt;rw[if_neg hlt];simp only[aj] at h ⊢
   grind
def fH(bt:Bt)(bp src:Option dM)(len:Nat)(b:Nat×Nat)(cap:Nat):Bt:={ bt with
 β:=λx=>match x.l with | [] =>b| _::_=>match jd bp src len x with |some y=>bt.β y|none=>(0,0)
 κ:=λx=>match x.l with | [] =>cap| _::_=>match jd bp src len x with |some y=>bt.κ y|none=>0 }
theorem eI{bp src:Option dM}{len:Nat}{b:Nat×Nat}{cap:Nat}{x y:dM}(h:jd bp src len x=some y): (fH bt bp src len b cap).β x=bt.β y/\(fH bt bp src len b cap).κ x=bt.κ y:=by
 obtain⟨r,l⟩:=x;cases l with
 |nil=>simp[jd] at h
 |cons z l=>simp_all [fH]
structure De (w:World) (bt:Bt) (S' S1:St) (sz:Nat) (rows:List (List T)) (bv:Value) (ab:Option Addr) (cap:Nat) (bp:Option dM) (olds:List Value):Prop where
 val:bv= .slice ab rows.length cap
 le:rows.length<=cap
 pos:0<cap-> ∃p,bp=some p/\ab=some ⟨(bt.β p).1,(bt.β p).2,none⟩/\cap<=bt.κ p
 len:olds.length=rows.length*sz
 cells: ∀ (i:Nat) (r:List T),rows[i]? =some r->r.length=sz/\ ∀ (j:Nat) (y:T),r[j]? =some y-> ∃c,olds[i*sz+j]? =some c/\yW bt bp i j y c
 cur:0<cap-> ∃g O cur e',ab=some ⟨g,O,none⟩/\w.heap[g]? =some (.cells cur e' (0,0))/\O+cap*sz<=cur.size/\(∀ (k:Nat) (u:Value),cur[k]? =some u->u.oneCell'=true)/\ ∀ (k:Nat) (u:Value),olds[k]? =some u->cur[O+k]? =some u
 st:S1=(match bp with |some p=>if p.l= [] then { S' with gh:=dQ S'.gh p.r none } else S'.setAt p .dd|none=>S')
 root: ∀p,bp=some p->S'.fz<=p.r/\ ∃rows0,S'.look p= .sl sz rows0/\rows=rows0.take rows.length
 no:bp=none->rows= []
theorem mO[dE](hI:eh w0 W bt S w)(hE:ER w bt S a)(hfz:S.fz<=S.ng){sz:Nat}{rows more:List (List T)}{bv x v:Value}{ab:Option Addr}{cap:Nat}{b:Nat×Nat}{cap':Nat}{bp src:Option dM}{olds news:List Value}{S' S1:St}
  (hs:DH w bt S S' sz more x src news) (hb:De w bt S' S1 sz rows bv ab cap bp olds) (hr:nF w w' ab rows.length cap more.length sz olds news v b cap'):
  ∃bt',eO w0 W bt S a bt' { S1 with gh:=dQ S1.gh S.ng (some (.sl sz (rows++more))),ng:=S.ng+1 } w'/\bt.le bt'/\VR w' bt' (.own ⟨S.ng,[]⟩ sz 0 (rows.length+more.length)) v:=by
 have hI':eh w0 W bt S' w:=by
  rw[hs.gone];cases src with
  |none=>exact hI
  |some q=>exact hI.drop q.r
 have look': ∀q s rs,S'.look q= .sl s rs->S.look q= .sl s rs/\ ∀q0,src=some q0->q.r≠q0.r:=by
  intro q s rs h;rw[hs.gone] at h;cases src with
  |none=>exact⟨h,λq0 h0=>by cases h0⟩
  |some q0=>grind [St.look,dQ]
 have eq':S'.env=S.env/\S'.bx=S.bx/\S'.ng=S.ng/\S'.fz=S.fz/\S'.nt=S.nt/\ ∀r,r<S.fz->S'.gh r=S.gh r:=by
  rw[hs.gone];cases src with
  |none=>grind
  |some q=>exact⟨rfl,rfl,rfl,rfl,rfl,λr hr=>by have:=(hs.root q rfl).2.2;simp only[dQ];rw[if_neg (by omega)]⟩
 have st1:eh w0 W bt S1 w/\(∀q s rs,S1.look q= .sl s rs->(∀p,bp=some p-> ¬js p q)/\ ∃rs0,S'.look q= .sl s rs0)/\S1.env=S'.env/\S1.bx=S'.bx/\S1.ng=S'.ng/\S1.fz=S'.fz/\S1.nt=S'.nt/\ ∀r,r<S.fz->S1.gh r=S'.gh r:=by
  have hst:=hb.st;cases bp with
  |none=>grind
  |some p=>
   simp only at hst;obtain⟨hf,rows0,hp,_⟩:=hb.root p rfl
   grind [Di]
 obtain⟨hI1,look1,q1,q2,q3,q4,q5,q6⟩:=st1;obtain⟨r1,r2,r3,r4,r5,r6⟩:=eq';have hE1:ER w bt S1 a:=⟨by rw[q5,r5];exact hE.1,λt=>by rw[q1,r1];exact hE.2 t⟩
 have hng1:S1.ng=S.ng:=q3.trans r3;have hfz1:S1.fz=S.fz:=q4.trans r4;have hbx1:S1.bx=S.bx:=q2.trans r2
 have hbase:0<cap-> ∃p rows0,bp=some p/\ab=some ⟨(bt.β p).1,(bt.β p).2,none⟩/\0<bt.κ p/\S.look p= .sl sz rows0/\cap<=bt.κ p:=by intro h;obtain⟨p,hp,h1,h2⟩:=hb.pos h;obtain⟨_,rows0,h3,_⟩:=hb.root p hp;exact⟨p,rows0,hp,h1,by omega,(look' _ _ _ h3).1,h2⟩
 have hloose: ∀k,(0<cap/\ ∃o,ab=some ⟨k,o,none⟩)->AK w0 W bt S1 k:=by
  rintro k ⟨hc,o,hk⟩
  obtain⟨p,rows0,hp,h1,h2,h3,_⟩:=hbase hc
  have :k=(bt.β p).1:=by rw[h1] at hk;simp only[af,Addr.mk.injEq] at hk;exact hk.1.symm
  subst this;refine⟨((hI.tr _ _ _ h3).2 h2).1,λn cs hn=> ?_,λq s rs hq hkq he=> ?_,hI.atr _ _ _ h3 h2⟩
  ·rw[hbx1] at hn;exact hI.bbtr _ _ _ _ _ hn h3 h2
  ·obtain⟨g1,rs0,g2⟩:=look1 q s rs hq;have:=hI.inj _ _ _ _ _ _ (look' _ _ _ g2).1 h3 hkq h2 he;subst this;exact g1 q hp ⟨rfl,List.prefix_refl _⟩
 have hch:iE w0 W bt S1 w w':=⟨hr.os,hr.tape,hr.output,hr.size,λk hk=>by
  rcases hr.block k hk with h|h
  all_goals grind⟩
 have hch': ∀k,k<w.heap.size->w'.heap[k]? =w.heap[k]? \/(0<cap/\ ∃o,ab=some ⟨k,o,none⟩):=hr.block
 have nested: ∀x s rs,(gv [.sl sz (rows++more)]).look x= .sl s rs->x.r=0/\((x.l= [] /\s=sz/\rs=rows++more)\/
   ∃y,jd bp src rows.length x=some y/\x.l≠ [] /\S.look y= .sl s rs/\((∃p,bp=some p/\js p y/\y≠p/\ ∀q,src=some q->y.r≠q.r)\/(∃q,src=some q/\js q y/\ ∀p,bp=some p->y.r≠p.r))):=by
  intro x s rs h;obtain⟨h0,h1⟩:=km h;refine⟨h0,?_⟩;rcases h1 with h1| ⟨i,j,l,r,y,hl,h2,h3,h4⟩
  ·exact .inl h1
  ·right;by_cases hi:i<rows.length
   ·rw[aW hi] at h2;cases hbp:bp with
    |none=>rw[hb.no hbp] at hi;simp at hi
    |some p=>
     obtain⟨_,rows0,hp,ht⟩:=hb.root p hbp
     have h2':rows0[i]? =some r:=by rw[ht,bn,if_pos hi] at h2;exact h2
     have hlk:S'.look ⟨p.r,p.l++(i,j)::l⟩= .sl s rs:=by
      unfold St.look at hp ⊢;split at hp
      ·grind [T.go_append,T.go,T.cell]
      ·cases hp
     refine⟨_,by simp[jd,hl,hi],by rw[hl];simp,(look' _ _ _ hlk).1,.inl ⟨p,rfl,⟨rfl,dy _ _⟩,λhe=> ?_,λq hq=>(look' _ _ _ hlk).2 q hq⟩⟩;have:=congrArg (λz:dM=>z.l.length) he;simp at this
   ·rw[be (by omega)] at h2;cases hsrc:src with
    |none=>
     obtain⟨_,g⟩:=hs.cells _ r h2;obtain⟨c,_,g2⟩:=g j y h3;rw[hsrc] at g2;obtain⟨v,rfl,_⟩:=g2;cases l with
     |nil=>cases h4
     |cons z l=>rw[T.sc_go] at h4;cases h4
    |some q=>
     obtain⟨hql,hq,_⟩:=hs.root q hsrc
     have hlk:S.look ⟨q.r,q.l++(i-rows.length,j)::l⟩= .sl s rs:=by
      unfold St.look at hq ⊢;split at hq
      ·grind [T.go,T.cell]
      ·cases hq
     refine⟨_,by simp[jd,hl,hi],by rw[hl];simp,hlk,.inr ⟨q,rfl,⟨rfl,dy _ _⟩,λp hp=> ?_⟩⟩;obtain⟨_,rows0,h5,_⟩:=hb.root p hp
     grind
 have notroot: ∀y s rs x,S.look y= .sl s rs->0<bt.κ y->jd bp src rows.length x=some y->((∃p,bp=some p/\js p y/\y≠p/\ ∀q,src=some q->y.r≠q.r)\/(∃q,src=some q/\js q y/\ ∀p,bp=some p->y.r≠p.r))->
   ¬ (0<cap/\ ∃o,ab=some ⟨(bt.β y).1,o,none⟩):=by
  rintro y s rs x hy hk hd hor ⟨hc,o,he⟩
  obtain⟨p,rows0,hp,h1,h2,h3,_⟩:=hbase hc;rw[h1] at he;simp only[af,Addr.mk.injEq] at he;have:=hI.inj _ _ _ _ _ _ h3 hy h2 hk he.1;subst this;rcases hor with ⟨p',hp',_,hne,_⟩| ⟨q,hq,_,hne⟩
  ·grind
  ·exact hne _ hp rfl
 obtain⟨f1,f2,f3⟩:=hI.fresh (b:=w.heap.size) (az _)
 have hrootb:0<cap'->(b=(w.heap.size,0)\/(0<cap/\ ∃o,ab=some ⟨b.1,o,none⟩)):=λh=>by
  rcases (hr.root h).1 with h|h
  all_goals grind
 have hvl:rows.length+more.length<=cap':=hr.le
 have:=qL hI1 hE1 (by rw[hfz1,hng1];exact hfz) hch (sz:=sz) (rows:=rows++more) (fH bt bp src rows.length b cap')
  (λx s rs h=>by
    obtain⟨h0,h1⟩:=nested x s rs h;rcases h1 with ⟨hl,rfl,rfl⟩| ⟨y,hd,hl,hy,hor⟩
    ·have e1: (fH bt bp src rows.length b cap').κ x=cap':=by simp only[fH,hl]
     have e2: (fH bt bp src rows.length b cap').β x=b:=by simp only[fH,hl]
     rw[e1,e2];refine⟨by simpa using hvl,λhk=>⟨?_,?_⟩⟩
     ·rcases hrootb hk with rfl|h
      ·exact .inl hI.size
      ·exact (hloose _ h).ours
     ·have hz:b.2=0\/s<=3:=by
       rcases (hr.root hk).1 with h| ⟨h1,h2,_⟩
       ·exact .inl (by rw[h])
       ·obtain⟨p,rows0,_,k1,k2,k3,_⟩:=hbase h1;rw[k1] at h2;simp only[af,Addr.mk.injEq] at h2;obtain⟨_,_,_,_,k4,_⟩:=(hI.tr _ _ _ k3).2 k2;rw[<-h2.2.1];exact k4.2
      obtain⟨_,cs,e,g1,g2,g3,g4,g5⟩:=hr.root hk;refine⟨cs,e,by rw[e2];exact g1,by rw[e1,e2];exact⟨g2,hz⟩,g3,λi r hi=> ?_⟩;rw[e2];by_cases hil:i<rows.length
      ·rw[aW hil] at hi;obtain⟨k1,k2⟩:=hb.cells i r hi;refine⟨k1,λj y hj=> ?_⟩;obtain⟨c,k3,k4⟩:=k2 j y hj;refine⟨c,g4 _ _ k3,?_⟩;cases hbp:bp with
       |none=>rw[hb.no hbp] at hil;simp at hil
       |some p=>
        rw[hbp] at k4;have hd:jd bp src rows.length (x.sub i j)=some (p.sub i j):=by simp[jd,dM.sub,hl,hil,hbp]
        have:=eI (bt:=bt) (b:=b) (cap:=cap') hd;rw[hbp] at this;have k4':HR bt (p.sub i j) y c:=k4;cases k4' with
        |sc h=>exact .sc h
        |dd u=>exact .dd _
        |sl q1 q2 q3=>exact .sl q1 (by rw[this.2];exact q2) (by rw[this.1];exact q3)
      ·rw[be (by omega)] at hi;obtain⟨k1,k2⟩:=hs.cells _ r hi;refine⟨k1,λj y hj=> ?_⟩;obtain⟨c,k3,k4⟩:=k2 j y hj;refine⟨c,?_,?_⟩
       ·have:=g5 _ _ k3;rw[<-this]
        congr 1
        have :i*s=rows.length*s+(i-rows.length)*s:=by rw[<-bB];congr 1;omega
        omega
       ·cases hsrc:src with
        |none=>rw[hsrc] at k4;obtain⟨v,rfl,rfl,hv⟩:=k4;exact .sc hv
        |some q=>
         rw[hsrc] at k4;have hd:jd bp src rows.length (x.sub i j)=some (q.sub (i-rows.length) j):=by simp[jd,dM.sub,hl,hil,hsrc]
         have:=eI (bt:=bt) (b:=b) (cap:=cap') hd;rw[hsrc] at this;have k4':HR bt (q.sub (i-rows.length) j) y c:=k4;cases k4' with
         |sc h=>exact .sc h
         |dd u=>exact .dd _
         |sl q1 q2 q3=>exact .sl q1 (by rw[this.2];exact q2) (by rw[this.1];exact q3)
    ·obtain⟨e2,e1⟩:=eI (bt:=bt) (b:=b) (cap:=cap') hd;rw[e1,e2];obtain⟨k1,k2⟩:=hI.tr _ _ _ hy;refine⟨k1,λhk=>⟨(k2 hk).1,?_⟩⟩;obtain⟨_,cs,e,g1,g2,g3,g4⟩:=k2 hk;refine⟨cs,e,?_,by rw[e1,e2];exact g2,g3,λi r hi=> ?_⟩
     ·grind
     ·obtain⟨m1,m2⟩:=g4 i r hi;refine⟨m1,λj z hj=> ?_⟩;obtain⟨c,m3,m4⟩:=m2 j z hj;have:=eI (bt:=bt) (b:=b) (cap:=cap') (xj hd i j);refine⟨c,by rw[e2];exact m3,?_⟩;cases m4 with
      |sc h=>exact .sc h
      |dd u=>exact .dd _
      |sl q1 q2 q3=>exact .sl q1 (by rw[this.2];exact q2) (by rw[this.1];exact q3))
  (λx x' s rs s' rs' h h' hk hk' he=>by
    obtain⟨h0,h1⟩:=nested x s rs h;obtain⟨h0',h1'⟩:=nested x' s' rs' h';have root: ∀ (x:dM),x.l= [] ->(fH bt bp src rows.length b cap').κ x=cap'/\(fH bt bp src rows.length b cap').β x=b:=λx hl=>⟨by simp only[fH,hl],by simp only[fH,hl]⟩
    have mixed: ∀ (x:dM) (y:dM) (s:Nat) (rs:List (List T)),0<cap'->jd bp src rows.length x=some y->S.look y= .sl s rs->0<bt.κ y->((∃p,bp=some p/\js p y/\y≠p/\ ∀q,src=some q->y.r≠q.r)\/(∃q,src=some q/\js q y/\ ∀p,bp=some p->y.r≠p.r))->b.1≠(bt.β y).1:=by
     intro x y s rs hc hd hy hk hor he;rcases hrootb hc with hbb|hbb
     ·exact f2 _ _ _ hy hk (by rw[<-he,hbb])
     ·grind
    rcases h1 with ⟨hl,_⟩| ⟨y,hd,hl,hy,hor⟩<;>rcases h1' with ⟨hl',_⟩| ⟨y',hd',hl',hy',hor'⟩
    ·obtain⟨xr,xl⟩:=x;obtain⟨xr',xl'⟩:=x'
     grind
    ·grind [eI]
    ·grind [eI]
    ·rw[(eI hd).2] at hk;rw[(eI hd').2] at hk';rw[(eI hd).1,(eI hd').1] at he;have:=hI.inj _ _ _ _ _ _ hy hy' hk hk' he;subst this;obtain⟨xr,xl⟩:=x;obtain⟨xr',xl'⟩:=x';simp only at h0 h0' hl hl';subst h0 h0'
     congr 1
     cases xl with
     |nil=>exact absurd rfl hl
     |cons z xl=>
      cases xl' with
      |nil=>exact absurd rfl hl'
      |cons z' xl'=>
       obtain⟨i,j⟩:=z;obtain⟨i',j'⟩:=z';simp only[jd] at hd hd';by_cases hi:i<rows.length<;>by_cases hi':i'<rows.length
       ·rw[if_pos hi] at hd;rw[if_pos hi'] at hd';simp only[aj] at hd hd';obtain⟨p,hp,e1⟩:=hd;obtain⟨p',hp',e2⟩:=hd';rw[hp] at hp';cases hp';rw[<-e1] at e2;simp only[dM.mk.injEq,List.append_cancel_left_eq,true_and] at e2;exact e2.symm
       ·rw[if_pos hi] at hd;rw[if_neg hi'] at hd'
        grind [Option.map_eq_some_iff]
       ·rw[if_neg hi] at hd;rw[if_pos hi'] at hd'
        grind [Option.map_eq_some_iff]
       ·rw[if_neg hi] at hd;rw[if_neg hi'] at hd';simp only[aj] at hd hd';obtain⟨p,hp,e1⟩:=hd;obtain⟨p',hp',e2⟩:=hd';rw[hp] at hp';cases hp';rw[<-e1] at e2;simp only[dM.mk.injEq,List.append_cancel_left_eq,bu,au,true_and] at e2;obtain⟨⟨e3,e4⟩,e5⟩:=e2;rw[e4,e5,show i=i' by omega])
  (λx s rs h hk=>by
    obtain⟨h0,h1⟩:=nested x s rs h;rcases h1 with ⟨hl,rfl,rfl⟩| ⟨y,hd,hl,hy,hor⟩
    ·have e1: (fH bt bp src rows.length b cap').κ x=cap':=by simp only[fH,hl]
     have e2: (fH bt bp src rows.length b cap').β x=b:=by simp only[fH,hl]
     rw[e1] at hk;rw[e2];rcases hrootb hk with hbb|hbb
     ·grind
     ·have:=hloose _ hbb;exact⟨this.bx,this.tr,this.A⟩
    ·obtain⟨e2,e1⟩:=eI (bt:=bt) (b:=b) (cap:=cap') hd;rw[e1] at hk;rw[e2];refine⟨λn cs hn=>hI.bbtr _ _ _ _ _ (by rw[<-hbx1];exact hn) hy hk,λq s rs hq hkq he=> ?_,hI.atr _ _ _ hy hk⟩;obtain⟨g1,rs0,g2⟩:=look1 q s rs hq;obtain⟨g3,g4⟩:=look' _ _ _ g2;have:=hI.inj _ _ _ _ _ _ g3 hy hkq hk he;subst this;rcases hor with ⟨p,hp,hu,_,_⟩| ⟨p,hp,hu,_⟩
     ·exact g1 p hp hu
     ·exact g4 p hp hu.1)
 obtain⟨bt',g1,g2,g3,g4,g5⟩:=this;rw[hng1] at g1 g3 g4 g5;refine⟨bt',⟨g1.inv,g1.er,g1.fz.trans hfz1,trivial,by show S.ng<=S.ng+1;omega,λp hp=>g1.keep p (by rw[hfz1];exact hp),λr hr' hn=> ?_⟩,g2,?_⟩
 ·have:=g1.gone r (by rw[hfz1];exact hr') hn
  grind
 ·obtain⟨ad,rfl,had⟩:=hr.val;refine .own (by show S.ng<bt'.ng;omega) hvl (by rw[g5];simp[fH]) (λhc=> ?_);rw[had hc,g4,bQ];rfl
end
end
section
open Go Go.RowKit
section
variable {P:Program} {w0 w w':World} {W:Nat->Prop} {bt:Bt} {S:St} {a:Act}
theorem qn[dE](hI:eh w0 W bt S w)(hE:ER w bt S a)(hfz:S.fz<=S.ng){t ty el:TypeId}(hel:i8 P t=some el){bav xav v:AV}{bv xv:Value}(hb:VR w bt bav bv)(hx:VR w bt xav xv){more:List (List T)}{S' S3:St}{fl:Bool}
  (hs:source S (P.cellsOf el) fl xav=some (more,S')) (h:eK S' bav (P.cellsOf el) more=some (v,S3)) {p:dM} {s lo n:Nat} (hv:v= .own p s lo n) (hby:n*P.bytesOf el<=2 ^ 40) (hn:n<=2 ^ 40) (hpos:0<P.cellsOf el) (hz: (mL P el).isSome=true):
  ∃u w' bt',(Builtin.append_ #[t,t] ty #[bv,xv]).run P w= .ok u w'/\eO w0 W bt S a bt' S3 w'/\VR w' bt' v u:=by
 obtain⟨zr,hz⟩:=aY.1 hz;obtain⟨zs,h1,h2,_,_⟩:=kA hz;obtain⟨i,zv,hi,hzv,rfl,hall⟩:=fS h1;have hsz:P.cellsOf el=i.size:=by simp[Program.cellsOf,hi]
 have hbz:P.bytesOf el=i.bytes:=by simp[Program.bytesOf,hi]
 obtain⟨src,news,hsrc⟩:=lT hI hpos hx hs;have hone: ∀u∈zv.cells.toList,u.oneCell'=true:=λu hu=>ay.1 hall u hu
 have look': ∀q s rs,S'.look q= .sl s rs->S.look q= .sl s rs:=by
  intro q s rs h;rw[hsrc.gone] at h;cases src with
  |none=>exact h
  |some q0=>grind [St.look,dQ]
 have ng':S'.ng=S.ng/\S'.fz=S.fz:=by rw[hsrc.gone];cases src<;>exact⟨rfl,rfl⟩
 have go: ∀ {rows:List (List T)} {ab:Option Addr} {cap:Nat} {bp:Option dM} {olds:List Value} {S1:St},De w bt S' S1 (P.cellsOf el) rows bv ab cap bp olds->v= .own ⟨S.ng,[]⟩ (P.cellsOf el) 0 (rows.length+more.length)->
   S3= { S1 with gh:=dQ S1.gh S.ng (some (.sl (P.cellsOf el) (rows++more))),ng:=S.ng+1 } -> ∃u w' bt',(Builtin.append_ #[t,t] ty #[bv,xv]).run P w= .ok u w'/\eO w0 W bt S a bt' S3 w'/\VR w' bt' v u:=by
  intro rows ab cap bp olds S1 hbas hve hSe
  have hnn:n=rows.length+more.length:=by rw[hv] at hve;simp only[AV.own.injEq] at hve;exact hve.2.2.2
  obtain⟨u,w',b,cap',hr,hap⟩:=nJ (P:=P) (w:=w) (t:=t) (ty:=ty) (e:=el) (i:=i) (z:=zv) (ab:=ab) (len:=rows.length) (cap:=cap) (m:=more.length) (olds:=olds) (news:=news) (x:=xv) (eY hel) hi hzv (by rw[<-hsz,<-h2];simp) hone (by omega) hbas.le (by rw[<-hsz];exact hbas.len) (by rw[<-hsz];exact hsrc.len) (by rw[<-hsz];exact hbas.cur)
   (by
     rcases hsrc.val with ⟨h,h'⟩|h
     all_goals grind) hsrc.one (by omega) (by rw[<-hbz,<-hnn];exact hby)
  rw[<-hsz] at hap;obtain⟨bt',g1,_,g2⟩:=mO hI hE hfz hsrc hbas hap;rw[hSe,hve];refine⟨u,w',bt',?_,g1,g2⟩;rw[hbas.val];exact hr
 cases hb with
 |em ab=>
  simp only[eK,af,au] at h;obtain⟨rfl,rfl⟩:=h;refine go (rows:=[]) (ab:=ab) (cap:=0) (bp:=none) (olds:=[]) (S1:=S') ⟨rfl,az _,λh=>absurd h (by omega),by simp,λi r hi=>by simp at hi,λh=>absurd h (by omega),rfl,λp hp=>(nomatch hp),λ_=>rfl⟩ ?_ ?_
  ·rw[ng'.1];simp
  ·rw[ng'.1];rfl
 |own hp hcap hk ha=>
  rename_i q s' lo' len ad cap;simp only[eK] at h;split at h
  ·rename_i hc;obtain⟨rfl,rfl,hfz'⟩:=hc;simp only[ah] at h;obtain⟨rows,hrows,h⟩:=h;split at h
   ·cases h
   ·rename_i hlen;simp only[af,au] at h;obtain⟨rfl,rfl⟩:=h;have hlook':=fw hrows;have hlook:=look' _ _ _ hlook';have htl: (rows.take len).length=len:=by simp;omega
    have hlr:rows.length<=bt.κ q:=(hI.tr _ _ _ hlook).1
    obtain⟨olds,hol,holds,hcur⟩: ∃olds:List Value,olds.length=len*P.cellsOf el/\(∀ (i:Nat) (r:List T),(rows.take len)[i]? =some r->r.length=P.cellsOf el/\ ∀ (j:Nat) (y:T),r[j]? =some y-> ∃c,olds[i*P.cellsOf el+j]? =some c/\yW bt (some q) i j y c)/\
      (0<cap-> ∃g O cur e',ad=some ⟨g,O,none⟩/\w.heap[g]? =some (.cells cur e' (0,0))/\O+cap*P.cellsOf el<=cur.size/\(∀ (k:Nat) (u:Value),cur[k]? =some u->u.oneCell'=true)/\ ∀ (k:Nat) (u:Value),olds[k]? =some u->cur[O+k]? =some u):=by
     rcases bo cap with h0|h0
     ·have hl0:len=0:=by omega
      subst hl0;exact⟨[],by simp,λi r hi=>by simp at hi,λh=>absurd h (by omega)⟩
     ·obtain⟨olds,g1,g2,g3,g4⟩:=iZ hI (lo:=0) (len:=len) hlook (by omega) (by omega);obtain⟨_,arr,e,k1,k2,k3,k4⟩:=(hI.tr _ _ _ hlook).2 (by omega);refine⟨olds,g1,λi r hi=> ?_,λ_=>⟨(bt.β q).1,(bt.β q).2,arr,e,by rw[ha h0,bQ];rfl,k1,aX (du (bz _ (by omega)) _) k2.1,k3,λk u hk'=> ?_⟩⟩
      ·rw[cE] at g4;obtain⟨m1,m2⟩:=g4 i r hi;refine⟨m1,λj y hy=> ?_⟩;obtain⟨c,m3,m4⟩:=m2 j y hy;rw[aP] at m4;exact⟨c,m3,m4⟩
      ·have:=g3 k u hk';rw[Go.Proofs.YtkghndikalnipaaGreat.En.add_lit,gq k1,bQ,bI] at this;exact this
    refine go (rows:=rows.take len) (ab:=ad) (cap:=cap) (bp:=some q) (olds:=olds) (S1:=if q.l= [] then { S' with gh:=dQ S'.gh q.r none } else S'.setAt q .dd)
     ⟨by rw[htl],by rw[htl];exact hcap,λh0=>⟨q,rfl,by rw[ha h0,bQ];rfl,by omega⟩,by rw[htl];exact hol,holds,hcur,rfl,λp hp=>by grind,λh=>by cases h⟩ ?_ ?_
    ·rw[ng'.1,htl]
    ·rw[ng'.1]
  ·cases h
 | _=>simp[eK] at h
def fY(P:Program)(o:Oper):Bool:=match o.op with
 | .load t _=>decide (0<P.cellsOf t)
 | .store t _ _=>decide (0<P.cellsOf t)&&(P.info? t).isSome
 | .indexAddr t _ _=>match i8 P t with |some el=>(P.info? el).isSome|none=>true
 | .slice t _ _ _ _=>match i8 P t with |some el=>(P.info? el).isSome|none=>true
 | .select .. =>false
 | .call { callee:=.value _,args:=as,argTypes:=ts } =>ts.size==as.size
 | .call { callee:=.builtin .append,args:=_,argTypes:=ts } =>match ts.toList with | [t,t'] =>t==t'||(match P.underlying t' with |some (.int _)=>true| _=>false)| _=>true
 | _=>true
theorem tA[dE]{D:iC}{o:Oper}{v:AV}(hI:eh w0 W bt S w)(hE:ER w bt S a)(hok:fY P o=true)(hp:jl o=true)(h:dD D P S o=some v):
  ∃u,(execOp a.eval o).run P w= .ok (.value u) w/\VR w bt v u:=by
 refine tB hI hE hp (λt x he=> ?_) (λt x y he el hel=> ?_) (λt x lo hi he el hel=> ?_) h
 ·simpa [fY,he] using hok
 ·simp only[fY,he,hel] at hok;exact aY.1 hok
 ·simp only[fY,he,hel] at hok;exact aY.1 hok
theorem eO.refl[dE](hI:eh w0 W bt S w)(hE:ER w bt S a):eO w0 W bt S a bt S w:=⟨hI,hE,rfl,trivial,az _,λ_ _=>⟨rfl,rfl⟩,λ_ _ h=>h⟩
theorem Ah{v:AV}(h1:v≠ .dead)(h2: ∀vs,v≠ .tup vs):v.isDead=false:=by
 cases v with
 |dead=>exact absurd rfl h1
 |tup vs=>exact absurd rfl (h2 vs)
 | _=>rfl
theorem rC: ∀ {rs:List (List T)} {ns:List Int},jG rs=some ns->rs=ns.map λn=> [T.sc (.int .u8 n)] :=by
 intro rs
 induction rs with
 |nil=>simp_all [jG]
 |cons r rs ih=>
  intro ns h;unfold jG at h;split at h
  ·rename_i heq;cases heq
  ·rename_i n rs' heq;simp only[bu] at heq;obtain⟨rfl,rfl⟩:=heq;simp only[aj] at h
   grind
  ·cases h
theorem rK[dE](hI:eh w0 W bt S w){p:dM}{lo len:Nat}{u:Value}(hv:VR w bt (.own p 1 lo len) u){s d el:TypeId}(hs:P.underlying s=some (.slice el))(he:P.underlying el=some (.int .u8))(hd:P.underlying d=some .string)(hlen:0<len){rows:List (List T)}(hr:S.rows p 1=some rows)(hle:lo+len<=rows.length){ns:List Int}(hn:jG ((rows.drop lo).take len)=some ns):
  (convert s d u).run P w= .ok (.string (BM ns)) w:=by
 cases hv with
 |own hp hc hk ha=>
  rename_i ad cap;have hrs:=rC hn
  have hnl:ns.length=len:=by have:=congrArg List.length hrs;simp only[cR,co,aH] at this;omega
  obtain⟨news,g1,g2,g3,g4⟩:=iZ hI (fw hr) (by omega) hle
  have hnews:news=ns.map (Value.int .u8):=by
   apply bA;intro i;rcases cZ i ns.length with hi|hi
   ·have hri: ((rows.drop lo).take len)[i]? =some [T.sc (.int .u8 ns[i])] :=by rw[hrs,aw,aq hi];rfl
    obtain⟨_,q⟩:=g4 i _ hri;obtain⟨c,q1,q2⟩:=q 0 _ rfl;cases q2<;>grind
   ·grind
  have hl:=run_loadCells_list (P:=P) w (⟨(bt.β p).1,(bt.β p).2+lo*1,none⟩:Addr) news g3;rw[ha (by omega),run_convert_bytes_string w s d el _ len cap hs he hd];refine run_bytesToString w _ len cap ns ?_
  grind
theorem AB[dE]{D:iC}{o:Oper}{v:AV}{S':St}(hI:eh w0 W bt S w)(hE:ER w bt S a)(hfz:S.fz<=S.ng)(hok:fY P o=true)(hf:im o=false)(h:step D P S o=some (v,S')):
  ∃u w' bt',((execOp a.eval o).run P w= .ok (.value u) w'\/((execOp a.eval o).run P w= .ok .skip w'/\u=undef))/\eO w0 W bt S a bt' S' w'/\VR w' bt' v u:=by
 obtain⟨dst,op,type,pos,after,guard⟩:=o
 have val: ∀ {v S'},jl ⟨dst,op,type,pos,after,guard⟩=true->(dD D P S ⟨dst,op,type,pos,after,guard⟩).map (λv=>(v,S))=some (v,S')->
   ∃u w' bt',((execOp a.eval ⟨dst,op,type,pos,after,guard⟩).run P w= .ok (.value u) w'\/((execOp a.eval ⟨dst,op,type,pos,after,guard⟩).run P w= .ok .skip w'/\u=undef))/\eO w0 W bt S a bt' S' w'/\VR w' bt' v u:=by
  intro v S' hp h;simp only[aj,au] at h;obtain⟨v',h1,rfl,rfl⟩:=h;obtain⟨u,g1,g2⟩:=tA hI hE hok hp h1;exact⟨u,w,bt,.inl g1,eO.refl hI hE,g2⟩
 have sc: ∀ {v S'},(∀cs b,op≠ .select cs b)->(dL P S ⟨dst,op,type,pos,after,guard⟩).map (λv=>(v,S))=some (v,S')->
   ∃u w' bt',((execOp a.eval ⟨dst,op,type,pos,after,guard⟩).run P w= .ok (.value u) w'\/((execOp a.eval ⟨dst,op,type,pos,after,guard⟩).run P w= .ok .skip w'/\u=undef))/\eO w0 W bt S a bt' S' w'/\VR w' bt' v u:=by
  intro v S' hs h;simp only[aj,au] at h;obtain⟨v',h1,rfl,rfl⟩:=h;obtain⟨u,g1,g2⟩:=iA hE (λcs b=>hs cs b) h1;exact⟨u,w,bt,.inl g1,eO.refl hI hE,g2⟩
 cases op with
 |alloc t=>
  simp only[step,aj,au] at h;obtain⟨zs,hz,rfl,rfl⟩:=h
  have hm:zs.map pb=zs.map nD:=by
   refine aE λc hc=> ?_;obtain⟨i,z,_,_,rfl,hall⟩:=fS hz;have:=ay.1 hall c hc;unfold pb;split
   ·simp[Value.oneCell'] at this
   ·rfl
  obtain⟨u,w',bt',g1,g2,g3⟩:=rr hI hE hfz hz;rw[hm];exact⟨u,w',bt',.inl (by simp[execOp,g1]),g2,g3⟩
 |box t x=>
  simp only[step] at h;have hv:=dP hE x;split at h
  ·cases h
  ·cases h
  ·rename_i h1 h2;simp only[af,au] at h;obtain⟨rfl,rfl⟩:=h;obtain⟨u,w',bt',g1,g2,g3⟩:=vV (P:=P) (t:=t) hI hE hfz hv (Ah h1 h2);exact⟨u,w',bt',.inl (by simp[execOp,g1]),g2,g3⟩
 |store t x y=>simp only[step,aj,au] at h;obtain⟨S2,h1,rfl,rfl⟩:=h;simp only[fY,ak,decide_eq_true_eq] at hok;obtain⟨i,hi⟩:=aY.1 hok.2;obtain⟨w',bt',g1,g2⟩:=tD hI hE hi hok.1 (dP hE x) (dP hE y) h1;exact⟨undef,w',bt',.inr ⟨by simp[execOp,g1],rfl⟩,g2,.dead _⟩
 |makeSlice t l c=>
  simp only[step,ah] at h;obtain⟨el,hel,n,hn,m,hm,z,hz,h⟩:=h;split at h
  ·rename_i hc;obtain⟨h0,rfl,h2,h3⟩:=hc;simp only[af,au] at h;obtain⟨rfl,rfl⟩:=h;obtain⟨kl,hl⟩:=ia hn (dP hE l);obtain⟨kc,hc⟩:=ia hm (dP hE c);obtain⟨u,w',bt',g1,g2,_,g3⟩:=jw (kl:=kl) (kc:=kc) hI hE hfz hel hz h0 h2 h3;exact⟨u,w',bt',.inl (by simp[execOp,hl,hc,g1]),g2,g3⟩
  ·cases h
 |buildSlice t len parts=>
  simp only[step,ah] at h;obtain⟨el,hel,h⟩:=h;split at h
  ·rename_i hc;obtain⟨h1,h2,h3,h4,h5⟩:=hc;split at h
   ·simp only[aj,au] at h;obtain⟨rows,h6,rfl,rfl⟩:=h;obtain⟨u,w',bt',g1,g2,g3⟩:=kF hI hE hel h1 h2 h3 h4 h5 h6;exact⟨u,w',bt',.inl (by simp[execOp,g1]),g2,g3⟩
   simp only[aj,au] at h;obtain⟨S2,h6,rfl,rfl⟩:=h;obtain⟨u,w',bt',g1,g2,g3,_⟩:=l7 hI hE hfz hel h1 h2 h3 h4 h5 h6;exact⟨u,w',bt',.inl (by simp[execOp,g1]),g2,g3⟩
  ·cases h
 |call c=>
  obtain⟨cl,as,ts⟩:=c;cases cl with
  |value f=>simp[im] at hf
  |invoke r m=>exact sc (by simp) (by simpa [step,dD] using h)
  |builtin b=>
   cases b with
   |append=>
    simp only[step] at h;split at h
    ·rename_i s x t t' e1 e2;have e1:as= #[s,x] :=by apply Array.ext';simpa using e1
     have e2:ts= #[t,t'] :=by apply Array.ext';simpa using e2
     subst e1 e2;split at h
     ·rename_i htt;subst htt;simp only[ah] at h;obtain⟨el,hel,⟨more,S1⟩,h1,⟨v1,S3⟩,h2,h⟩:=h;simp only at h2 h;split at h
      ·rename_i p s' lo n;split at h
       ·rename_i hc;obtain⟨k1,k2,k3,k4⟩:=hc;simp only[af,au] at h;obtain⟨rfl,rfl⟩:=h;obtain⟨u,w',bt',g1,g2,g3⟩:=qn (ty:=type) hI hE hfz hel (dP hE s) (dP hE x) h1 h2 rfl k1 k2 k3 k4;exact⟨u,w',bt',.inl (by simp[execOp,resolve,invoke,builtin,g1]),g2,g3⟩
       ·cases h
      ·cases h
     ·rename_i htt;simp only[ah] at h;obtain⟨el,hel,z,hz,h⟩:=h
      have hi: ∃kn,P.underlying t'=some (.int kn):=by
       simp only[fY,bq,beq_iff_eq,htt,false_or] at hok;split at hok
       ·grind
       ·cases hok
      obtain⟨kn,hkn⟩:=hi;have hbs:=dP hE s;have hbx:=dP hE x;split at h
      ·rename_i k n e3 e4;split at h
       ·rename_i hc;obtain⟨k1,k2,k3,k4⟩:=hc;simp only[af,au] at h;obtain⟨rfl,rfl⟩:=h;rw[e3] at hbs;rw[e4] at hbx;generalize hsu:a.eval s=su at hbs;generalize hxu:a.eval x=xu at hbx;cases hbs with
        |em ab=>
         cases hbx with
         |sc hsc=>obtain⟨u,w',bt',g1,g2,g3⟩:=pj (ty:=type) (kq:=k) (ab:=ab) hI hE hfz hel hkn hz k1 k2 k3 k4;exact⟨u,w',bt',.inl (by simp[execOp,resolve,invoke,builtin,hsu,hxu,g1]),g2,g3⟩
       ·cases h
      ·cases h
    ·cases h
   |len=>exact val rfl (by simpa [step] using h)
   |cap=>exact val rfl (by simpa [step] using h)
   |max=>exact val rfl (by simpa [step] using h)
   |min=>exact val rfl (by simpa [step] using h)
   | _=>exact sc (by simp) (by simpa [step,dD] using h)
 |select cs b=>simp[fY] at hok
 |convert s d x=>
  simp only[step] at h;split at h
  ·rename_i p sz lo len hx;simp only[ah] at h;obtain⟨el,hel,h⟩:=h;split at h
   ·rename_i hc;obtain⟨h8,hd,rfl,hlen⟩:=hc;simp only[ah] at h;obtain⟨rows,hrows,h⟩:=h;split at h
    ·rename_i hle;simp only[aj,au] at h;obtain⟨ns,hns,rfl,rfl⟩:=h;have hv:=dP hE x;rw[hx] at hv
     have he:P.underlying el=some (.int .u8):=by
      unfold Bx at h8;split at h8
      ·assumption
      ·cases h8
     have hd':P.underlying d=some .string:=by
      unfold mG at hd;split at hd
      ·assumption
      ·cases hd
     have hr:=rK hI hv (eY hel) he hd' hlen hrows hle hns;exact⟨_,w,bt,.inl (by simp[execOp,hr]),eO.refl hI hE,.sc rfl⟩
    ·cases h
   ·cases h
  ·exact val rfl h
 | _=>exact val rfl (by simpa [step] using h)
end
end
end Go.Proofs.YtkghndikalnipaaGreat.En
