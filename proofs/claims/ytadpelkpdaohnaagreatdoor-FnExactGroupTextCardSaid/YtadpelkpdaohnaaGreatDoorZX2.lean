import Derived.Test.YtadpelkpdaohnaaGreatDoorZX1
import Derived.Great.BuildSlice
import Derived.Laws.MakeOwn
import Derived.Lib.AppendZerosOnto
namespace Go.Proofs.YtadpelkpdaohnaaGreatDoor.En
section
open Go Go.RowKit
structure fX (w0:World) (W:Nat->Prop) (bt:Bt) (S:St) (a:Act) (bt':Bt) (S':St) (w':World):Prop where
 inv:eK w0 W bt' S' w'
 er:ER w' bt' S' a
 fz:S'.fz=S.fz
 orc:True
 ng:S.ng<=S'.ng
 keep: ∀p:eb,p.r<S.fz->bt'.β p=bt.β p/\bt'.κ p=bt.κ p
 gone: ∀r,r<S.fz->S'.gh r=none->S.gh r=none
section
variable {P:Program} {w0 w:World} {W:Nat->Prop} {bt:Bt} {S:St} {a:Act}
theorem ka (w:World) (o:Obj):Below w.heap.size w { w with heap:=w.heap.push o } :=
 ⟨rfl,rfl,rfl,by simp,fun k hk=>by simp[Array.getElem?_push,Nat.ne_of_lt hk]⟩
theorem mz (w:World) (o:Obj): ({ w with heap:=w.heap.push o }:World).heap[w.heap.size]? =some o:=by simp
theorem Io (hI:eK w0 W bt S w) (hE:ER w bt S a) (_hfz:S.fz<=S.ng) {cells:List AV} {cs:Array Value} {e:TypeId} (hl:cs.size=cells.length)
  (hc: ∀ (j:Nat) (v:AV),cells[j]? =some v-> ∃c,cs[j]? =some c/\VR w bt v c/\c.oneCell'=true):
  ∃bt',fX w0 W bt S a bt' { S with bx:=eh S.bx S.nb (some cells),nb:=S.nb+1 } { w with heap:=w.heap.push (.cells cs e) } /\
   VR { w with heap:=w.heap.push (.cells cs e) } bt' (.ptrB S.nb 0) (.pointer (some ⟨w.heap.size,0,none⟩)):=by
 have hb:=ka w (.cells cs e);have hA: ∀b,bt.A b->({ w with heap:=w.heap.push (.cells cs e) }:World).heap[b]? =w.heap[b]? :=fun b h=>hb.block b (hI.alt b h);obtain⟨f1,f2,f3⟩:=hI.fresh (b:=w.heap.size) (aw _)
 obtain⟨hle,hI'⟩:=(hI.grow hb).addBox (b:=w.heap.size) (cells:=cells) (cs:=cs) (e:=e) hI.size (mz w _) hl (fun j v hj=>by obtain⟨c,g1,g2,g3⟩:=hc j v hj;exact⟨c,g1,g2.mono (Bt.le.refl _) hA,g3⟩) f1 f2 f3
 refine⟨_,⟨hI',⟨hE.1,fun t=>(hE.2 t).mono hle hA⟩,rfl,trivial,aw _,fun p hp=>⟨rfl,rfl⟩,fun r hr h=>h⟩,?_⟩;have :eh bt.bb S.nb w.heap.size S.nb=w.heap.size:=by simp[eh]
 have h:=VR.ptrB (w:= { w with heap:=w.heap.push (.cells cs e) }) (bt:= { bt with bb:=eh bt.bb S.nb w.heap.size,nb:=S.nb+1 }) (n:=S.nb) 0 (cG _);simp only[this] at h;exact h
theorem w4 (v:Value) (h:v.cells.toList.all Value.oneCell'=true): ∀ (j:Nat) (x:AV),(v.cells.toList.map tZ)[j]? =some x-> ∃c,v.cells[j]? =some c/\VR w bt x c/\c.oneCell'=true:=by
 intro j x hj;simp only[an] at hj;cases hk:v.cells.toList[j]? with
 |none=>rw[hk] at hj; cases hj
 |some c=>rw[hk] at hj;simp only[az,ae] at hj;subst hj;refine⟨c,by simpa using hk,xM _ _ _,au.1 h c (aq hk)⟩
theorem nU {v:AV} {u:Value} (h:VR w bt v u) (hd:v.isDead=false):u.cells.size=v.cells.length/\(∀c∈u.cells.toList,c.oneCell'=true)/\
  ∀ (j:Nat) (x:AV),v.cells[j]? =some x-> ∃c,u.cells[j]? =some c/\VR w bt x c/\c.oneCell'=true:=by
 have one: ∀ {v:AV} {u:Value},VR w bt v u->v.isDead=false->(∀cs,v≠ .agg cs)->u.oneCell'=true:=by
  intro v u h hd hn;rcases h.one with ⟨cs,us,rfl,rfl⟩| ⟨cs,us,rfl,rfl⟩|rfl|h
  ·exact absurd rfl (hn cs)
  ·simp[AV.isDead] at hd
  ·simp[AV.isDead] at hd
  ·exact h
 have plain: (∀cs,v≠ .agg cs)->u.cells= #[u] ->v.cells= [v] ->u.cells.size=v.cells.length/\(∀c∈u.cells.toList,c.oneCell'=true)/\
   ∀ (j:Nat) (x:AV),v.cells[j]? =some x-> ∃c,u.cells[j]? =some c/\VR w bt x c/\c.oneCell'=true:=by
  intro hn h1 h2;rw[h1,h2];refine⟨rfl,fun c hc=> ?_,fun j x hj=> ?_⟩
  ·simp at hc;subst hc;exact one h hd hn
  ·cases j with
   |zero=>simp at hj;subst hj;exact⟨u,rfl,h,one h hd hn⟩
   |succ j=>simp at hj
 cases h with
 |agg hl ho hr=>
  rename_i cs us;refine⟨by simpa [Value.cells,AV.cells] using hl,by simpa [Value.cells] using ho,fun j x hj=> ?_⟩
  have hlt:j<us.length:=by have:=(ai.1 hj).1;simp only[AV.cells] at this;omega
  exact⟨us[j],by simp[Value.cells,hlt],hr j x _ hj (ah hlt),ho _ (bF hlt)⟩
 |tup=>simp[AV.isDead] at hd
 |dead=>simp[AV.isDead] at hd
 |sc hs=>refine plain (by simp) ?_ rfl;unfold kt at hs;split at hs<;>first |rfl|cases hs
 |ro hro=>exact plain (by simp) (by cases hro<;>rfl) rfl
 | _=>exact plain (by simp) rfl rfl
theorem jM {t:TypeId} {zs:List Value} (h:se P t=some zs): ∃i z,P.info? t=some i/\i.zero=some z/\zs=z.cells.toList/\z.cells.toList.all Value.oneCell'=true:=by
 unfold se at h;split at h
 ·rename_i i hi;simp only[aj] at h;obtain⟨z,hz,h⟩:=h;split at h
  ·simp only[ae] at h;exact⟨i,z,hi,hz,h.symm,‹_›⟩
  ·cases h
 ·cases h
theorem zz (hI:eK w0 W bt S w) (hE:ER w bt S a) (hfz:S.fz<=S.ng) {t:TypeId} {zs:List Value} (h:se P t=some zs):
  ∃u w' bt',(Instr.alloc t true (.tuple #[])).run P w= .ok u w'/\fX w0 W bt S a bt' { S with bx:=eh S.bx S.nb (some (zs.map tZ)),nb:=S.nb+1 } w'/\VR w' bt' (.ptrB S.nb 0) u:=by
 obtain⟨i,z,hi,hz,rfl,hall⟩:=jM h;obtain⟨bt',h1,h2⟩:=Io (e:=t) hI hE hfz (cells:=z.cells.toList.map tZ) (cs:=z.cells) (by simp) (w4 z hall);exact⟨_,_,bt',by simp[Instr.alloc,zeroValue,typeInfo,hi,hz,newVar,newRow],h1,h2⟩
theorem DF (hI:eK w0 W bt S w) (hE:ER w bt S a) (hfz:S.fz<=S.ng) {t:TypeId} {v:AV} {u:Value} (hv:VR w bt v u) (hd:v.isDead=false):
  ∃u' w' bt',(Instr.box t u).run P w= .ok u' w'/\fX w0 W bt S a bt' { S with bx:=eh S.bx S.nb (some v.cells),nb:=S.nb+1 } w'/\VR w' bt' (.ptrB S.nb 0) u':=by
 obtain⟨g1,_,g2⟩:=nU hv hd;obtain⟨bt',h1,h2⟩:=Io (e:=t) hI hE hfz (cells:=v.cells) (cs:=u.cells) g1 g2;exact⟨_,_,bt',by simp[Instr.box,newVar,newRow],h1,h2⟩
theorem s9 {t:TypeId} {i:TypeInfo} (hi:P.info? t=some i) {b o:Nat} {e:TypeId} {u:Value} {cur:Array Value} (hh:w.heap[b]? =some (.cells cur e (0,0)))
  (hsz:u.cells.size=P.cellsOf t) (hone: ∀c∈u.cells.toList,c.oneCell'=true) (hle:o+u.cells.size<=cur.size):
  (Instr.storeAt t (.pointer (some ⟨b,o,none⟩)) u).run P w= .ok () (w.setRow b (cur.toList.take o++u.cells.toList++cur.toList.drop (o+u.cells.size)).toArray):=by
 have h:=run_storeCells_at P b o e u.cells.toList 0 cur w hh (by simpa using hle) hone;simp only[ca,b7] at h;simp[Instr.storeAt,Instr.sureAddr,storeVar,run_sizeOf w hi,hsz,h]
theorem l4 {α:Type} (xs ys:List α) (o:Nat) (h:o+ys.length<=xs.length) (j:Nat): (xs.take o++ys++xs.drop (o+ys.length))[j]? =if j<o then xs[j]? else if j<o+ys.length then ys[j-o]? else xs[j]? :=by
 have hto: (xs.take o).length=o:=by simp; omega
 by_cases h1:j<o
 ·rw[if_pos h1,aU,aJ (by omega),aZ,if_pos h1]
 ·rw[if_neg h1,aU,aO (by omega),hto];by_cases h2:j<o+ys.length
  ·rw[if_pos h2,aJ (by omega)]
  ·rw[if_neg h2,aO (by omega),aN]
   congr 1
   omega
theorem xN (hI:eK w0 W bt S w) (hE:ER w bt S a) {t:TypeId} {i:TypeInfo} (hi:P.info? t=some i) {n j:Nat} {cells0:List AV} {v:AV} {u:Value} (hn:S.bx n=some cells0) (hv:VR w bt v u) (hd:v.isDead=false)
  (hsz:v.cells.length=P.cellsOf t) (hle:j+v.cells.length<=cells0.length):
  ∃w',(Instr.storeAt t (.pointer (some ⟨bt.bb n,j,none⟩)) u).run P w= .ok () w'/\fX w0 W bt S a bt { S with bx:=eh S.bx n (some (cells0.take j++v.cells++cells0.drop (j+v.cells.length))) } w':=by
 obtain⟨g1,g2,g3⟩:=nU hv hd;obtain⟨_,_,arr,e,hh,hs,hc⟩:=hI.bx n _ hn;have hrun:=s9 (P:=P) hi hh (o:=j) (by omega) g2 (by omega);refine⟨_,hrun,?_⟩;have hul:u.cells.toList.length=v.cells.length:=by simpa using g1
 obtain⟨hI',hA⟩:=hI.setBox (cells:=cells0.take j++v.cells++cells0.drop (j+v.cells.length)) (cs:=(arr.toList.take j++u.cells.toList++arr.toList.drop (j+u.cells.size)).toArray) hn hh (by simp; omega) (fun k x hk=>by
  rw[l4 _ _ _ hle] at hk
  have e2: (arr.toList.take j++u.cells.toList++arr.toList.drop (j+u.cells.size)).toArray[k]? =if k<j then arr.toList[k]? else if k<j+u.cells.toList.length then u.cells.toList[k-j]? else arr.toList[k]? :=by have:=l4 arr.toList u.cells.toList j (by simp; omega) k;simp only[b7] at this ⊢;simpa using this
  rw[e2,hul];by_cases q1:k<j
  ·rw[if_pos q1] at hk ⊢;obtain⟨c,k1,k2,k3⟩:=hc k x hk;exact⟨c,by simpa using k1,k2,k3⟩
  ·rw[if_neg q1] at hk ⊢;by_cases q2:k<j+v.cells.length
   ·rw[if_pos q2] at hk ⊢;obtain⟨c,k1,k2,k3⟩:=g3 _ x hk;exact⟨c,by simpa using k1,k2,k3⟩
   ·rw[if_neg q2] at hk ⊢;obtain⟨c,k1,k2,k3⟩:=hc k x hk;exact⟨c,by simpa using k1,k2,k3⟩)
 exact⟨hI',⟨hE.1,fun t=>(hE.2 t).mono (Bt.le.refl _) hA⟩,rfl,trivial,aw _,fun _ _=>⟨rfl,rfl⟩,fun _ _ h=>h⟩
end
end
section
open Go Go.RowKit
section
variable {P:Program} {w0 w:World} {W:Nat->Prop} {bt:Bt} {S:St} {a:Act}
theorem GR {x:AV} {c:Value} (h:VR w bt x c) (p:eb):HR bt p (T.ofSc x) c:=by cases h<;>first |exact .sc ‹_› |exact .dd _
theorem DG (x:AV): (∃v,T.ofSc x= .sc v)\/T.ofSc x= .dd:=by cases x<;>first |exact .inl ⟨_,rfl⟩|exact .inr rfl
theorem v8 (hI:eK w0 W bt S w) (hE:ER w bt S a) {t:TypeId} {ti:TypeInfo} (hi:P.info? t=some ti) {p:eb} {sz i j:Nat} {v:AV} {u:Value} {S':St} (hv:VR w bt v u) (hd:v.isDead=false)
  (hsz:v.cells.length=P.cellsOf t) (hpos:0<P.cellsOf t) (h:lc S p sz i j (v.cells.map T.ofSc)=some S'):
  ∃w',(Instr.storeAt t (.pointer (some ⟨bt.β p,i*sz+j,none⟩)) u).run P w= .ok () w'/\fX w0 W bt S a bt S' w'/\S'.env=S.env/\
   ∃rows cs e,S.look p= .sl sz rows/\i<rows.length/\j+v.cells.length<=(rows.getD i []).length/\
    S'=S.setAt p (.sl sz (rows.set i ((rows.getD i []).take j++v.cells.map T.ofSc++(rows.getD i []).drop (j+v.cells.length))))/\
    w'.heap[bt.β p]? =some (.cells cs e (0,0))/\ ∀ (k:Nat) (x:AV),v.cells[k]? =some x-> ∃c,cs[i*sz+(j+k)]? =some c/\VR w' bt x c:=by
 unfold lc at h;split at h
 ·rename_i rows hrows;split at h
  ·rename_i hc;simp only[ae] at h;subst h;simp only[aB] at hc ⊢;have hlook:=gC hrows;obtain⟨hlen,hrest⟩:=hI.tr _ _ _ hlook;have hk0:0<bt.κ p:=by omega
   obtain⟨_,arr,e,hh,hκs,hone,hcell⟩:=hrest hk0;obtain⟨g1,g2,g3⟩:=nU hv hd;have hrow:rows[i]? =some (rows.getD i []):=by simp[List.getD,ah hc.1]
   obtain⟨hrl,hrc⟩:=hcell i _ hrow;generalize hr0:rows.getD i [] =r0 at hc hrow hrl hrc ⊢
   have hfit:i*sz+sz<=arr.size:=by have : (i+1)*sz<=bt.κ p*sz:=bG _ (by omega);rw[bS,Nat.one_mul] at this;omega
   have hul:u.cells.toList.length=v.cells.length:=by simpa using g1
   have hrun:=s9 (P:=P) hi hh (o:=i*sz+j) (u:=u) (by omega) g2 (by omega);generalize hcs: (arr.toList.take (i*sz+j)++u.cells.toList++arr.toList.drop (i*sz+j+u.cells.size)).toArray=cs at hrun
   have hcs': ∀k,cs[k]? =if k<i*sz+j then arr[k]? else if k<i*sz+j+v.cells.length then u.cells[k-(i*sz+j)]? else arr[k]? :=by intro k;have:=l4 arr.toList u.cells.toList (i*sz+j) (by simp; omega) k;rw[<-hcs];simp only[b7,g1] at this ⊢;simpa using this
   have hsize:cs.size=arr.size:=by rw[<-hcs];simp;omega
   obtain⟨hI',hA⟩:=hI.setTree (rows:=rows.set i (r0.take j++v.cells.map T.ofSc++r0.drop (j+v.cells.length))) (cs:=cs) hlook hk0 hh hsize
    (fun k x hk=>by
      rw[hcs'] at hk;split at hk
      ·exact hone _ _ hk
      ·split at hk
       ·exact g2 x (aq (by simpa using hk))
       ·exact hone _ _ hk)
    (by simp)
    (fun i' r hr=>by
      rw[bC] at hr;by_cases hii:i=i'
      ·subst hii;simp only[if_true,hc.1,ae] at hr;subst hr;refine⟨by simp only[bn,cr,aB,ch]; omega,fun j' x hx=> ?_⟩;have hjl: (v.cells.map T.ofSc).length=v.cells.length:=by simp
       rw[<-hjl,l4 _ _ _ (by rw[hjl]; omega)] at hx;rw[hjl] at hx
       have hj's:j'<sz:=by
        by_cases q1:j'<j
        ·omega
        ·by_cases q2:j'<j+v.cells.length
         ·omega
         ·rw[if_neg q1,if_neg q2] at hx;have:=(ai.1 hx).1;omega
       rw[hcs'];by_cases q1:j'<j
       ·rw[if_pos q1] at hx;rw[if_pos (by omega)];exact⟨hrc j' x hx, .inr (.inr ⟨_,hrow,hx⟩)⟩
       ·rw[if_neg q1] at hx;rw[if_neg (by omega)];by_cases q2:j'<j+v.cells.length
        ·rw[if_pos q2,an] at hx;rw[if_pos (by omega)];cases hy:v.cells[j'-j]? with
         |none=>rw[hy] at hx; cases hx
         |some y=>
          rw[hy] at hx;simp only[az,ae] at hx;subst hx;obtain⟨c,k1,k2,_⟩:=g3 _ y hy;refine⟨⟨c,by rw[<-k1]; congr 1; omega,GR k2 _⟩,?_⟩;rcases DG y with ⟨v,hv⟩|hv
          ·exact .inl ⟨v,hv⟩
          ·exact .inr (.inl hv)
        ·rw[if_neg q2] at hx;rw[if_neg (by omega)];exact⟨hrc j' x hx, .inr (.inr ⟨_,hrow,hx⟩)⟩
      ·rw[if_neg hii] at hr;obtain⟨k1,k2⟩:=hcell i' r hr;refine⟨k1,fun j' x hx=>⟨?_, .inr (.inr ⟨r,hr,hx⟩)⟩⟩;obtain⟨c,m1,m2⟩:=k2 j' x hx;refine⟨c,?_,m2⟩
       have hj's:j'<sz:=by have:=(ai.1 hx).1;omega
       rw[hcs'];by_cases q:i'<i
       ·have :i'*sz+sz<=i*sz:=by
         have : (i'+1)*sz<=i*sz:=bG _ (by omega);rw[bS,Nat.one_mul] at this;omega
        rw[if_pos (by omega)];exact m1
       ·have :i*sz+sz<=i'*sz:=by
         have : (i+1)*sz<=i'*sz:=bG _ (by omega);rw[bS,Nat.one_mul] at this;omega
        rw[if_neg (by omega),if_neg (by omega)];exact m1)
   refine⟨_,hrun,⟨hI',⟨hE.1,fun t=>(hE.2 t).mono (Bt.le.refl _) hA⟩,rfl,trivial,aw _,fun _ _=>⟨rfl,rfl⟩,fun r hr hg=> ?_⟩,rfl,rows,cs,e,hlook,hc.1,by rw[hr0]; exact hc.2,by rw[hr0],setRow_heap w _ _ _ _ _ hh,fun k x hk=> ?_⟩
   ·have hg':=hg;simp only[St.setAt,eh] at hg';split at hg'
    ·rename_i he;rw[he];simpa using hg'
    ·exact hg'
   ·obtain⟨c,k1,k2,_⟩:=g3 k x hk;refine⟨c,?_,k2.mono (Bt.le.refl _) hA⟩;have hkl:=(ai.1 hk).1;rw[hcs',if_neg (by omega),if_pos (by omega),<-k1]
    congr 1
    omega
  ·cases h
 ·cases h
end
end
section
open Go Go.RowKit
def oU (p x:eb):Prop:=x.r=p.r/\p.l <+:x.l
instance (p x:eb):Decidable (oU p x):=inferInstanceAs (Decidable (_/\_))
theorem ur: ∀ (l m:List (Nat×Nat)),l <+:m->pre l m=true
 | [],_,_=>rfl
 | (i,j)::l,m,h=>by obtain⟨t,rfl⟩:=h;simp only[b6,pre,beq_self_eq_true,Bool.true_and];exact ur l _ ⟨t,rfl⟩
theorem oU.under {p x:eb} (h:oU p x):under p x=true:=by simp only[En.under,ao,beq_iff_eq];exact⟨h.1.symm,ur _ _ h.2⟩
def Bt.move (bt:Bt) (p:eb) (q:Nat):Bt:= { bt with β:=fun x=>if oU p x then bt.β ⟨q,x.l.drop p.l.length⟩ else bt.β x,κ:=fun x=>if oU p x then bt.κ ⟨q,x.l.drop p.l.length⟩ else bt.κ x }
def Bt.clear (bt:Bt) (p:eb):Bt:= { bt with κ:=fun x=>if oU p x then 0 else bt.κ x }
section
variable {P:Program} {w0 w:World} {W:Nat->Prop} {bt:Bt} {S:St} {a:Act}
theorem xO {bt':Bt} {p:eb} (hA:bt'.A=bt.A) (hb:bt'.bb=bt.bb) (hnb:bt'.nb=bt.nb) (hng:bt'.ng=bt.ng) (hβ: ∀x,¬oU p x->bt'.β x=bt.β x) (hκ: ∀x,¬oU p x->bt'.κ x=bt.κ x)
  {v:AV} {u:Value} (h:VR w bt v u):VR w bt' (kill p v) u/\VR w bt' (nS p v) u/\VR w bt' (lR p v) u:=by
 have hown: ∀ {q sz lo len a cap},q.r<bt.ng->len<=cap->lo+cap<=bt.κ q->(0<cap->a=some ⟨bt.β q,lo*sz,none⟩)->VR w bt' (if under p q then .dead else .own q sz lo len) (.slice a len cap):=by
  intro q sz lo len a cap h1 h2 h3 h4;split
  ·exact .dead _
  ·rename_i hu;have hn: ¬oU p q:=fun hu'=>hu hu'.under;exact .own (by rw[hng]; exact h1) h2 (by rw[hκ q hn]; exact h3) (by rw[hβ q hn]; exact h4)
 have hptr: ∀ {q sz i j},q.r<bt.ng->i<bt.κ q->VR w bt' (if under p q then .dead else .ptrT q sz i j) (.pointer (some ⟨bt.β q,i*sz+j,none⟩)):=by
  intro q sz i j h1 h2;split
  ·exact .dead _
  ·rename_i hu;have hn: ¬oU p q:=fun hu'=>hu hu'.under;rw[<-hβ q hn];exact .ptrT _ _ _ (by rw[hng]; exact h1) (by rw[hκ q hn]; exact h2)
 induction h with
 |sc h=>exact⟨.sc h, .sc h, .sc h⟩
 |em a=>exact⟨.em a, .em a, .em a⟩
 |ro h=>exact⟨.ro (by rw[hA]; exact h), .ro (by rw[hA]; exact h), .ro (by rw[hA]; exact h)⟩
 |own h1 h2 h3 h4=>exact⟨hown h1 h2 h3 h4,hown h1 h2 h3 h4,hown h1 h2 h3 h4⟩
 |pro cs hs hAd hr ht=>have :VR w bt' (.pro _) _:= .pro cs hs (by rw[hA]; exact hAd) hr (fun j x hx=>by rw[hA]; exact ht j x hx);exact⟨this,this,this⟩
 |ptrB j hn=>have :VR w bt' (.ptrB _ j) _:= .ptrB j (by rw[hnb]; exact hn);rw[hb] at this;exact⟨this,this,this⟩
 |ptrT sz i j h1 h2=>exact⟨hptr h1 h2,hptr h1 h2,hptr h1 h2⟩
 |fn f hl h ih=>
  have :VR w bt' (.fn f (_root_.List.map (lR p) _)) _:= .fn f (by simpa using hl) (fun k c u h1 h2=>by simp only[an,ak] at h1;obtain⟨x,hk,rfl⟩:=h1;exact (ih k x u hk h2).2.2)
  exact⟨this,this, .dead _⟩
 |agg hl ho h ih=>
  have :VR w bt' (.agg (_root_.List.map (lR p) _)) _:= .agg (by simpa using hl) ho (fun k c u h1 h2=>by simp only[an,ak] at h1;obtain⟨x,hk,rfl⟩:=h1;exact (ih k x u hk h2).2.2)
  exact⟨this,this, .dead _⟩
 |tup hl h ih=>
  have :VR w bt' (.tup (_root_.List.map (nS p) _)) _:= .tup (by simpa using hl) (fun k c u h1 h2=>by simp only[an,ak] at h1;obtain⟨x,hk,rfl⟩:=h1;exact (ih k x u hk h2).2.1)
  exact⟨this, .dead _, .dead _⟩
 |dead u=>exact⟨.dead _, .dead _, .dead _⟩
theorem eK.regraft (hI:eK w0 W bt S w) {bt':Bt} {p:eb} {i j szp:Nat} {prows:List (List T)} {r0:List T} {X:T} {s:Nat} {xrows:List (List T)} {g:Nat->Option T} {env:Nat->AV} {bx:Nat->Option (List AV)}
  (hp:S.look p= .sl szp prows) (hi:prows[i]? =some r0) (hj:j<r0.length) (hX:X= .sl s xrows)
  (hg: ∀r t,g r=some t->(r=p.r/\ ∃t0,S.gh p.r=some t0/\t=t0.put (p.l++ [(i,j)]) X)\/(r≠p.r/\S.gh r=some t))
  (hgp: ∀t0,S.gh p.r=some t0->g p.r=some (t0.put (p.l++ [(i,j)]) X))
  (hA:bt'.A=bt.A) (hb:bt'.bb=bt.bb) (hnb:bt'.nb=bt.nb) (hng:bt'.ng=bt.ng) (hβ: ∀x,¬oU (p.sub i j) x->bt'.β x=bt.β x) (hκ: ∀x,¬oU (p.sub i j) x->bt'.κ x=bt.κ x)
  (hcell:0<bt.κ p-> ∀cs e,w.heap[bt.β p]? =some (.cells cs e (0,0))-> ∃c,cs[i*szp+j]? =some c/\HR bt' (p.sub i j) X c)
  (hbx: ∀ (n:Nat) (cells':List AV),bx n=some cells'-> ∃ (cells:List AV),S.bx n=some cells/\cells'.length=cells.length/\ ∀ (k:Nat) (v':AV),cells'[k]? =some v'-> ∃ (v:AV),cells[k]? =some v/\ ∀u,VR w bt v u->VR w bt' v' u)
  (hin: ∀m sz rows,X.go m= .sl sz rows->rows.length<=bt'.κ ⟨p.r,p.l++ [(i,j)] ++m⟩/\(0<bt'.κ ⟨p.r,p.l++ [(i,j)] ++m⟩->(w0.heap.size<=bt'.β ⟨p.r,p.l++ [(i,j)] ++m⟩\/W (bt'.β ⟨p.r,p.l++ [(i,j)] ++m⟩))/\IP w bt' ⟨p.r,p.l++ [(i,j)] ++m⟩ sz rows/\
    (∀n cs,S.bx n=some cs->bt.bb n≠bt'.β ⟨p.r,p.l++ [(i,j)] ++m⟩)/\ ¬bt.A (bt'.β ⟨p.r,p.l++ [(i,j)] ++m⟩)/\
    (∀q s rs,S.look q= .sl s rs->g q.r≠none-> ¬oU (p.sub i j) q->0<bt.κ q->bt.β q≠bt'.β ⟨p.r,p.l++ [(i,j)] ++m⟩)/\
    (∀m' sz' rows',X.go m'= .sl sz' rows'->0<bt'.κ ⟨p.r,p.l++ [(i,j)] ++m'⟩->bt'.β ⟨p.r,p.l++ [(i,j)] ++m'⟩=bt'.β ⟨p.r,p.l++ [(i,j)] ++m⟩->m'=m))):
  eK w0 W bt' { S with env:=env,bx:=bx,gh:=g } w:=by
 obtain⟨t,ht,htp⟩: ∃t,S.gh p.r=some t/\t.go p.l= .sl szp prows:=by
  unfold St.look at hp;split at hp
  ·rename_i t ht;exact⟨t,ht,hp⟩
  ·cases hp
 have hval:t.go (p.l++ [(i,j)])≠ .dd\/(∃l' i' j' sz rows r,p.l++ [(i,j)] =l'++ [(i',j')] /\t.go l'= .sl sz rows/\rows[i']? =some r/\j'<r.length):=
  .inr ⟨p.l,i,j,szp,prows,r0,rfl,htp,hi,hj⟩
 have hself:=T.put_self X (p.l++ [(i,j)]) t hval
 have fG: ∀q sz rs,({ S with env:=env,bx:=bx,gh:=g }:St).look q= .sl sz rs->
   (∃m,q=⟨p.r,p.l++ [(i,j)] ++m⟩/\X.go m= .sl sz rs)\/(¬oU (p.sub i j) q/\g q.r≠none/\ ∃rs0,S.look q= .sl sz rs0/\rs.length=rs0.length/\ ∀ (a:Nat) (r:List T),rs[a]? =some r-> ∃r0,rs0[a]? =some r0/\r.length=r0.length/\
     ∀ (b:Nat) (y:T),r[b]? =some y-> ∃y0,r0[b]? =some y0/\((q=p/\a=i/\b=j/\y=X)\/(¬oU (p.sub i j) (q.sub a b)/\ ∀c,HR bt (q.sub a b) y0 c->HR bt (q.sub a b) y c))):=by
  intro q sz rs h;unfold St.look at h;simp only at h;cases hgq:g q.r with
  |none=>rw[hgq] at h; cases h
  |some tq=>
   rw[hgq] at h;simp only at h;rcases hg _ _ hgq with ⟨hqr,t0,ht0,rfl⟩| ⟨hqr,hold⟩
   ·rw[ht] at ht0;simp only[ae] at ht0;subst ht0;rcases T.put_spec X (p.l++ [(i,j)]) t hval q.l sz rs h with ⟨m,hm,hgo⟩| ⟨rs0,g1,g2,g3,g4⟩
    ·left;refine⟨m,?_,hgo⟩;obtain⟨qr,ql⟩:=q;simp only at hm hqr;rw[hm,hqr]
    ·right
     have hnu: ¬oU (p.sub i j) q:=by
      rintro⟨_,m,hm⟩
      exact g3 m hm.symm
     refine⟨hnu,by simp,rs0,by unfold St.look; rw[hqr,ht]; exact g1,g2,fun a r h1=> ?_⟩;obtain⟨r1,k1,k2,k3⟩:=g4 a r h1;refine⟨r1,k1,k2,fun b y h2=> ?_⟩;obtain⟨y0,j1,j2⟩:=k3 b y h2;refine⟨y0,j1,?_⟩;by_cases hl:q.l++ [(a,b)] =p.l++ [(i,j)]
     ·left;have:=List.append_inj' hl rfl;obtain⟨e1,e2⟩:=this;simp only[bo,al,and_true] at e2;refine⟨?_,e2.1,e2.2,?_⟩
      ·obtain⟨qr,ql⟩:=q;obtain⟨pr,pl⟩:=p;simp only at hqr e1;rw[hqr,e1]
      ·have hself': (t.put (p.l++ [(i,j)]) X).go (q.l++ [(a,b)])=X:=by rw[hl]; exact hself
       rw[T.go_append,h] at hself';have : ((rs.getD a []).getD b .dd).go [] =X:=hself';simp only[ar,h1,aK,h2,T.go] at this;exact this
     ·right;refine⟨?_,fun c hc=> ?_⟩
      ·rintro⟨_,m,hm⟩
       simp only[eb.sub] at hm;rcases List.eq_nil_or_concat m with rfl| ⟨m',x,rfl⟩
       ·exact hl (by simpa using hm.symm)
       ·rw[List.concat_eq_append,<-aU] at hm;have:=List.append_inj' hm rfl;exact hnu ⟨hqr,m',this.1⟩
      ·rcases j2 with rfl| ⟨hl',_⟩| ⟨s',ra,rb,rfl,rfl,hab⟩
       ·exact hc
       ·exact absurd hl' hl
       ·exact hc.len hab
   ·right;have hnu: ¬oU (p.sub i j) q:=fun hu=>hqr hu.1;refine⟨hnu,by simp,rs,by unfold St.look; rw[hold]; exact h,rfl,fun a r h1=>⟨r,h1,rfl,fun b y h2=>⟨y,h2, .inr ⟨fun hu=>hqr hu.1,fun c hc=>hc⟩⟩⟩⟩
 have box0: ∀n cs,bx n=some cs-> ∃cs0,S.bx n=some cs0:=fun n cs h=>by obtain⟨c0,h0,_⟩:=hbx n cs h; exact⟨c0,h0⟩
 exact { os:=hI.os,tape:=hI.tape,output:=hI.output,size:=hI.size,keep:=hI.keep,nb:=hnb.trans hI.nb,ng:=hng.trans hI.ng
         bx:=fun n cells' h=>by obtain⟨cells,h0,hl,hc⟩:=hbx n cells' h;obtain⟨g1,g2,cs,e,g3,g4,g5⟩:=hI.bx n _ h0;refine⟨g1,by rw[hb]; exact g2,cs,e,by rw[hb]; exact g3,by omega,fun k v' hk=> ?_⟩;obtain⟨v,k1,k2⟩:=hc k v' hk;obtain⟨c,m1,m2,m3⟩:=g5 k v k1;exact⟨c,m1,k2 c m2,m3⟩
         gh:=fun r x h=>by
          rcases hg r x h with ⟨rfl,_⟩| ⟨_,h'⟩
          ·exact hI.gh _ _ ht
          ·exact hI.gh _ _ h'
         tr:=fun q sz rs h=>by
          rcases fG q sz rs h with ⟨m,rfl,hm⟩| ⟨hnu,hgn,rs0,h0,hl0,hc0⟩
          ·obtain⟨h1,h2⟩:=hin m sz rs hm;exact⟨h1,fun hk=>⟨(h2 hk).1,(h2 hk).2.1⟩⟩
          ·obtain⟨h1,h2⟩:=hI.tr q _ _ h0;rw[hκ q hnu,hβ q hnu];refine⟨by omega,fun hk=>⟨(h2 hk).1,?_⟩⟩;obtain⟨_,cs,e,g1,g2,g3,g4⟩:=h2 hk;refine⟨cs,e,by rw[hβ q hnu]; exact g1,by rw[hκ q hnu]; exact g2,g3,fun a r ha=> ?_⟩;obtain⟨r1,a1,a2,a3⟩:=hc0 a r ha;obtain⟨b1,b2⟩:=g4 a r1 a1;refine⟨by omega,fun b y hy=> ?_⟩;obtain⟨y0,c1,c2⟩:=a3 b y hy;rcases c2 with ⟨rfl,rfl,rfl,rfl⟩| ⟨c2,c3⟩
           ·rw[hp] at h0;simp only[T.sl.injEq] at h0;obtain⟨rfl,_⟩:=h0;exact hcell hk cs e g1
           ·obtain⟨c,d1,d2⟩:=b2 b y0 c1;exact⟨c,d1,(c3 c d2).mono (hκ _ c2) (hβ _ c2)⟩
         inj:=fun q q' s1 rs s2 rs' h h' hk hk' he=>by
          rcases fG q s1 rs h with ⟨m,rfl,hm⟩| ⟨hnu,hgn,rs0,h0,_⟩<;>rcases fG q' s2 rs' h' with ⟨m',rfl,hm'⟩| ⟨hnu',hgn',rs0',h0',_⟩
          ·have:=((hin m' _ _ hm').2 hk').2.2.2.2.2 m _ _ hm hk he;rw[this]
          ·rw[hκ _ hnu'] at hk';rw[hβ _ hnu'] at he;exact absurd he.symm (((hin m _ _ hm).2 hk).2.2.2.2.1 q' _ _ h0' hgn' hnu' hk')
          ·rw[hκ _ hnu] at hk;rw[hβ _ hnu] at he;exact absurd he (((hin m' _ _ hm').2 hk').2.2.2.2.1 q _ _ h0 hgn hnu hk)
          ·rw[hκ _ hnu] at hk;rw[hκ _ hnu'] at hk';rw[hβ _ hnu,hβ _ hnu'] at he;exact hI.inj _ _ _ _ _ _ h0 h0' hk hk' he
         bbinj:=fun n m c c' h h' he=>by obtain⟨c0,h0⟩:=box0 n c h;obtain⟨c1,h1⟩:=box0 m c' h';rw[hb] at he;exact hI.bbinj _ _ _ _ h0 h1 he
         bbtr:=fun n c q sz rs h h' hk=>by
          obtain⟨c0,h0⟩:=box0 n c h;rw[hb];rcases fG q sz rs h' with ⟨m,rfl,hm⟩| ⟨hnu,hgn,rs0,hl,_⟩
          ·exact ((hin m _ _ hm).2 hk).2.2.1 n _ h0
          ·rw[hκ _ hnu] at hk;rw[hβ _ hnu];exact hI.bbtr _ _ _ _ _ h0 hl hk
         alt:=fun b h=>hI.alt b (by rw[hA] at h; exact h)
         atr:=fun q sz rs h hk=>by
          rw[hA];rcases fG q sz rs h with ⟨m,rfl,hm⟩| ⟨hnu,hgn,rs0,hl,_⟩
          ·exact ((hin m _ _ hm).2 hk).2.2.2.1
          ·rw[hκ _ hnu] at hk;rw[hβ _ hnu];exact hI.atr _ _ _ hl hk
         abb:=fun n c h=>by obtain⟨c0,h0⟩:=box0 n c h;rw[hA,hb];exact hI.abb _ _ h0 }
end
end
section
open Go Go.RowKit
section
variable {P:Program} {w0 w:World} {W:Nat->Prop} {bt:Bt} {S:St} {a:Act}
theorem T.go_take {s:Nat} {rows:List (List T)} {n:Nat} {m:List (Nat×Nat)} {sz:Nat} {rs:List (List T)} (h: (T.sl s (rows.take n)).go m= .sl sz rs):
  (m= [] /\sz=s/\rs=rows.take n)\/(m≠ [] /\(T.sl s rows).go m= .sl sz rs):=by
 cases m with
 |nil=>simp only[T.go,T.sl.injEq] at h;exact .inl ⟨rfl,h.1.symm,h.2.symm⟩
 |cons x m=>
  obtain⟨i,j⟩:=x;obtain⟨_,rws,r,y,he,h1,h2,h3⟩:=T.go_cons_sl (t:=T.sl s (rows.take n)) (i:=i) (j:=j) (l:=m) (by rw[h]; simp);simp only[T.sl.injEq] at he;obtain⟨_,rfl⟩:=he;rw[h] at h3;refine .inr ⟨by simp,?_⟩;rw[aZ] at h1;split at h1
  ·show ((rows.getD i []).getD j .dd).go m=_;simp only[ar,h1,aK,h2];exact h3.symm
  ·cases h1
theorem w5 (p:eb) (hE:ER w bt S a) {bt':Bt} (hA:bt'.A=bt.A) (hb:bt'.bb=bt.bb) (hnb:bt'.nb=bt.nb) (hng:bt'.ng=bt.ng) (hβ: ∀x,¬oU p x->bt'.β x=bt.β x) (hκ: ∀x,¬oU p x->bt'.κ x=bt.κ x)
  {S':St} (he:S'.env=fun t=>kill p (S.env t)) (hn:S'.nt=S.nt):ER w bt' S' a:=
 ⟨by rw[hn]; exact hE.1,fun t=>by rw[he]; exact (xO hA hb hnb hng hβ hκ (hE.2 t)).1⟩
theorem IV {bt:Bt} {p:eb} {q:Nat} (m:List (Nat×Nat)): (bt.move p q).β ⟨p.r,p.l++m⟩=bt.β ⟨q,m⟩/\(bt.move p q).κ ⟨p.r,p.l++m⟩=bt.κ ⟨q,m⟩:=by
 have :oU p ⟨p.r,p.l++m⟩:=⟨rfl,m,rfl⟩
 simp[Bt.move,this]
structure GS (w0:World) (W:Nat->Prop) (bt:Bt) (S:St) (a:Act) (w:World) (p:eb) (szp i j:Nat) (prows:List (List T)) (r0:List T) (bt':Bt) (S':St):Prop where
 inv:eK w0 W bt' S' w
 er:ER w bt' S' a
 fz:S'.fz=S.fz
 ng:S'.ng=S.ng
 A:bt'.A=bt.A
 bb:bt'.bb=bt.bb
 nb:bt'.nb=bt.nb
 bng:bt'.ng=bt.ng
 other: ∀x:eb,x.r≠p.r->bt'.β x=bt.β x/\bt'.κ x=bt.κ x
 same: ∀x:eb,¬oU (p.sub i j) x->bt'.β x=bt.β x/\bt'.κ x=bt.κ x
 look: ∃X,S'.look p= .sl szp (prows.set i (r0.set j X))
 gone: ∀r,r<S.fz->S'.gh r=none->S.gh r=none
theorem xP (p:eb) (i j:Nat): ¬oU (p.sub i j) p:=by
 rintro⟨_,m,hm⟩
 have:=congrArg List.length hm;simp[eb.sub] at this
theorem zA (hI:eK w0 W bt S w) (hE:ER w bt S a) {p:eb} {i j sz szp:Nat} {prows:List (List T)} {r0:List T} {av:AV} {S':St} {cs:Array Value} {e:TypeId} {c:Value}
  (hp:S.look p= .sl szp prows) (hi:prows[i]? =some r0) (hj:j<r0.length) (_hk:0<bt.κ p) (hfz:S.fz<=p.r) (hh:w.heap[bt.β p]? =some (.cells cs e (0,0))) (hc:cs[i*szp+j]? =some c)
  (hv: ∀q s lo len,av= .own q s lo len->q.r≠p.r->VR w bt av c) (hem:av= .em->VR w bt av c) (h:lS S p i j sz av=some S'):
  ∃bt',GS w0 W bt S a w p szp i j prows r0 bt' S'\/(bt'=bt/\S'=S):=by
 obtain⟨t,ht,htp⟩: ∃t,S.gh p.r=some t/\t.go p.l= .sl szp prows:=by
  unfold St.look at hp;split at hp
  ·rename_i t ht;exact⟨t,ht,hp⟩
  ·cases hp
 have hilt:i<prows.length:=(ai.1 hi).1
 have lookp: ∀ (X:T) (g:Nat->Option T),g p.r=some (t.put (p.l++ [(i,j)]) X)-> ∀env bx,({ S with env:=env,bx:=bx,gh:=g }:St).look p= .sl szp (prows.set i (r0.set j X)):=by
  intro X g hg env bx;unfold St.look;simp only[hg]
  have : ∀ (l:List (Nat×Nat)) (t:T),t.go l= .sl szp prows->(t.put (l++ [(i,j)]) X).go l= .sl szp (prows.set i (r0.set j X)):=by
   intro l
   induction l with
   |nil=>intro t h;simp only[T.go] at h;subst h;simp only[bB,T.put,T.go,ar,hi,aK]
   |cons x l ih=>
    obtain⟨a,b⟩:=x;intro t h;obtain⟨sz0,rows0,r1,y,rfl,h1,h2,h3⟩:=T.go_cons_sl (t:=t) (i:=a) (j:=b) (l:=l) (by rw[h]; simp);rw[h] at h3;have ha:a<rows0.length:=(ai.1 h1).1;have hb:b<r1.length:=(ai.1 h2).1;simp only[b6,T.put,ar,h1,aK,h2];show (((rows0.set a (r1.set b (y.put (l++ [(i,j)]) X))).getD a []).getD b .dd).go l=_
    have e: ((rows0.set a (r1.set b (y.put (l++ [(i,j)]) X))).getD a []).getD b .dd=y.put (l++ [(i,j)]) X:=by simp[ar,ha,hb]
    rw[e];exact ih y h3.symm
  exact this p.l t htp
 unfold lS at h;split at h
 ·rename_i q s lo len;split at h
  ·rename_i hcond;obtain⟨hql,rfl,rfl,hqfz,hqp⟩:=hcond;simp only[aj] at h;obtain⟨rows,hrows,h⟩:=h;split at h
   ·rename_i hlen;simp only[ae] at h;subst h;have hlookq:=gC hrows;have hq:q=⟨q.r,[]⟩:=by obtain⟨qr,ql⟩:=q; simp only at hql; rw[hql]
    have hvr:=hv q s 0 len rfl hqp
    obtain⟨tq,htq,htql⟩: ∃tq,S.gh q.r=some tq/\tq= .sl s rows:=by
     unfold St.look at hlookq;split at hlookq
     ·rename_i tq htq;rw[hql] at hlookq;exact⟨tq,htq,hlookq⟩
     ·cases hlookq
    have src: ∀m sz rs,(T.sl s (rows.take len)).go m= .sl sz rs-> ∃rs0,S.look ⟨q.r,m⟩= .sl sz rs0/\rs.length<=rs0.length/\ ∀ (a:Nat) (r:List T),rs[a]? =some r->rs0[a]? =some r:=by
     intro m sz rs hm;have hl:S.look ⟨q.r,m⟩=(T.sl s rows).go m:=by unfold St.look; rw[htq,htql]
     rcases T.go_take hm with ⟨rfl,rfl,rfl⟩| ⟨_,h'⟩
     ·refine⟨rows,hl,by simp; omega,fun a r ha=> ?_⟩;rw[aZ] at ha;split at ha
      ·exact ha
      ·cases ha
     ·exact⟨rs,by rw[hl]; exact h',aw _,fun a r ha=>ha⟩
    have hnu: ∀x,¬oU (p.sub i j) x->(bt.move (p.sub i j) q.r).β x=bt.β x/\(bt.move (p.sub i j) q.r).κ x=bt.κ x:=fun x hx=>by simp[Bt.move,hx]
    have hmv: ∀m,(bt.move (p.sub i j) q.r).β ⟨p.r,p.l++ [(i,j)] ++m⟩=bt.β ⟨q.r,m⟩/\(bt.move (p.sub i j) q.r).κ ⟨p.r,p.l++ [(i,j)] ++m⟩=bt.κ ⟨q.r,m⟩:=fun m=>IV (p:=p.sub i j) m
    have hgp: ∀t0,S.gh p.r=some t0->eh (eh (S.killU (p.sub i j)).gh q.r none) p.r ((S.gh p.r).map fun t=>t.put (p.l++ [(i,j)]) (.sl s (rows.take len))) p.r=some (t0.put (p.l++ [(i,j)]) (.sl s (rows.take len))):=by intro t0 h0;simp[eh,h0]
    have hinv:=hI.regraft (bt':=bt.move (p.sub i j) q.r) (p:=p) (i:=i) (j:=j) (szp:=szp) (prows:=prows) (r0:=r0) (X:= .sl s (rows.take len)) (s:=s) (xrows:=rows.take len)
     (g:=eh (eh (S.killU (p.sub i j)).gh q.r none) p.r ((S.gh p.r).map fun t=>t.put (p.l++ [(i,j)]) (.sl s (rows.take len))))
     (env:=(S.killU (p.sub i j)).env) (bx:=(S.killU (p.sub i j)).bx) hp hi hj rfl
     (fun r t' hr=>by
       unfold eh at hr;split at hr
       ·rename_i he;simp only[ak] at hr;obtain⟨t0,h0,rfl⟩:=hr;exact .inl ⟨he,t0,h0,rfl⟩
       ·rename_i he;split at hr
        ·cases hr
        ·exact .inr ⟨he,hr⟩)
     hgp rfl rfl rfl rfl (fun x hx=>(hnu x hx).1) (fun x hx=>(hnu x hx).2)
     (fun _ cs' e' hh'=>by
       rw[hh] at hh';simp only[ae,Obj.cells.injEq] at hh';obtain⟨rfl,_⟩:=hh';refine⟨c,hc,?_⟩;obtain⟨m1,m2⟩:=hmv [];simp only[bw] at m1 m2;rw[hq] at hvr;cases hvr with
       |own h1 h2 h3 h4=>
        rename_i aa cap;have hl: (rows.take len).length=len:=by simp; omega
        rw[show (Value.slice aa len cap)=Value.slice aa (rows.take len).length cap by rw[hl]]
        exact .sl (by omega) (by show cap<=(bt.move (p.sub i j) q.r).κ ⟨p.r,p.l++ [(i,j)]⟩; rw[m2]; omega) (fun h0=>by show aa=some ⟨(bt.move (p.sub i j) q.r).β ⟨p.r,p.l++ [(i,j)]⟩,0,none⟩;rw[m1];simpa using h4 h0))
     (fun n cells' hn=>by simp only[St.killU,ak] at hn;obtain⟨cells,h0,rfl⟩:=hn;refine⟨cells,h0,by simp,fun k v' hk'=> ?_⟩;simp only[an,ak] at hk';obtain⟨v,hk',rfl⟩:=hk';exact⟨v,hk',fun u hu=>(xO (bt:=bt) (bt':=bt.move (p.sub i j) q.r) rfl rfl rfl rfl (fun x hx=>(hnu x hx).1) (fun x hx=>(hnu x hx).2) hu).2.2⟩)
     (fun m sz rs hm=>by
       obtain⟨rs0,h0,hl0,hsub⟩:=src m sz rs hm;obtain⟨b1,b2⟩:=hmv m;rw[b1,b2];obtain⟨h1,h2⟩:=hI.tr _ _ _ h0;refine⟨by omega,fun hk'=>⟨(h2 hk').1,?_,fun n cs hn=>hI.bbtr _ _ _ _ _ hn h0 hk',hI.atr _ _ _ h0 hk',fun x s' rs' hx hg hnx hkx he=> ?_,fun m' sz' rows' hm' hk'' he=> ?_⟩⟩
       ·obtain⟨_,cs',e',g1,g2,g3,g4⟩:=h2 hk';refine⟨cs',e',by rw[b1]; exact g1,by rw[b2]; exact g2,g3,fun a r ha=> ?_⟩;obtain⟨k1,k2⟩:=g4 a r (hsub a r ha);refine⟨k1,fun b x hb=> ?_⟩;obtain⟨c',n1,n2⟩:=k2 b x hb;refine⟨c',n1,?_⟩;have hm2:=hmv (m++ [(a,b)]);have eqp: (⟨p.r,p.l++ [(i,j)] ++m⟩:eb).sub a b=⟨p.r,p.l++ [(i,j)] ++(m++ [(a,b)])⟩:=by simp[eb.sub]
        rw[eqp];cases n2 with
        |sc h=>exact .sc h
        |dd=>exact .dd _
        |sl hc1 hk1 ha1=>exact .sl hc1 (by rw[hm2.2]; exact hk1) (by rw[hm2.1]; exact ha1)
       ·have:=hI.inj _ _ _ _ _ _ hx h0 hkx hk' he;subst this;exact hg (by simp[eh,hqp])
       ·obtain⟨rs1,h01,_,_⟩:=src m' sz' rows' hm';obtain⟨b3,b4⟩:=hmv m';rw[b4] at hk'';rw[b3] at he;have:=hI.inj _ _ _ _ _ _ h01 h0 hk'' hk' he;simpa using this)
    refine⟨bt.move (p.sub i j) q.r, .inl ?_⟩
    exact { inv:=hinv
            er:=w5 (bt':=bt.move (p.sub i j) q.r) (p.sub i j) hE rfl rfl rfl rfl (fun x hx=>(hnu x hx).1) (fun x hx=>(hnu x hx).2) rfl rfl
            fz:=rfl,ng:=rfl,A:=rfl,bb:=rfl,nb:=rfl,bng:=rfl
            other:=fun x hx=>hnu x (fun hu=>hx hu.1)
            same:=hnu
            look:=⟨_,lookp _ _ (hgp t ht) _ _⟩
            gone:=fun r hr hg=>by
             have hg':eh (eh S.gh q.r none) p.r ((S.gh p.r).map fun t=>t.put (p.l++ [(i,j)]) (.sl s (rows.take len))) r=none:=hg;unfold eh at hg';split at hg'
             ·omega
             ·split at hg'
              ·omega
              ·exact hg' }
   ·cases h
  ·cases h
 ·simp only[ae] at h;subst h;have hnu: ∀x,¬oU (p.sub i j) x->(bt.clear (p.sub i j)).β x=bt.β x/\(bt.clear (p.sub i j)).κ x=bt.κ x:=fun x hx=>by simp[Bt.clear,hx]
  have hmv: ∀m,(bt.clear (p.sub i j)).κ ⟨p.r,p.l++ [(i,j)] ++m⟩=0:=fun m=>by
   have :oU (p.sub i j) ⟨p.r,p.l++ [(i,j)] ++m⟩:=⟨rfl,m,rfl⟩
   show (if oU (p.sub i j) _ then 0 else _)=0;rw[if_pos this]
  have hgp: ∀t0,S.gh p.r=some t0->((S.killU (p.sub i j)).setAt (p.sub i j) (.sl sz [])).gh p.r=some (t0.put (p.l++ [(i,j)]) (.sl sz [])):=by intro t0 h0;simp[St.setAt,St.killU,eh,eb.sub,h0]
  have hinv:=hI.regraft (bt':=bt.clear (p.sub i j)) (p:=p) (i:=i) (j:=j) (szp:=szp) (prows:=prows) (r0:=r0) (X:= .sl sz []) (s:=sz) (xrows:= [])
   (g:=((S.killU (p.sub i j)).setAt (p.sub i j) (.sl sz [])).gh) (env:=(S.killU (p.sub i j)).env) (bx:=(S.killU (p.sub i j)).bx) hp hi hj rfl
   (fun r t' hr=>by
     simp only[St.setAt,St.killU,eh,eb.sub] at hr;split at hr
     ·rename_i he;simp only[ak] at hr;obtain⟨t0,h0,rfl⟩:=hr;exact .inl ⟨he,t0,h0,rfl⟩
     ·rename_i he;exact .inr ⟨he,hr⟩)
   hgp rfl rfl rfl rfl (fun x hx=>(hnu x hx).1) (fun x hx=>(hnu x hx).2)
   (fun _ cs' e' hh'=>by
     rw[hh] at hh';simp only[ae,Obj.cells.injEq] at hh';obtain⟨rfl,_⟩:=hh';refine⟨c,hc,?_⟩;have:=hem rfl;cases this with
     |em aa=>exact .sl (rows:= []) (aw 0) (ba _) (fun h0=>absurd h0 (dE 0)))
   (fun n cells' hn=>by simp only[St.killU,ak] at hn;obtain⟨cells,h0,rfl⟩:=hn;refine⟨cells,h0,by simp,fun k v' hk'=> ?_⟩;simp only[an,ak] at hk';obtain⟨v,hk',rfl⟩:=hk';exact⟨v,hk',fun u hu=>(xO (bt:=bt) (bt':=bt.clear (p.sub i j)) rfl rfl rfl rfl (fun x hx=>(hnu x hx).1) (fun x hx=>(hnu x hx).2) hu).2.2⟩)
   (fun m sz' rs hm=>by
     rw[hmv m];refine⟨?_,fun h0=>absurd h0 (dE 0)⟩;cases m with
     |nil=>simp only[T.go,T.sl.injEq] at hm; rw[<-hm.2]; exact aw 0
     |cons x m=>obtain⟨a,b⟩:=x;obtain⟨_,rws,r,y,he,h1,_⟩:=T.go_cons_sl (t:=T.sl sz []) (i:=a) (j:=b) (l:=m) (by rw[hm]; simp);simp only[T.sl.injEq] at he;obtain⟨_,rfl⟩:=he;simp at h1)
  refine⟨bt.clear (p.sub i j), .inl ?_⟩
  exact { inv:=hinv
          er:=w5 (bt':=bt.clear (p.sub i j)) (p.sub i j) hE rfl rfl rfl rfl (fun x hx=>(hnu x hx).1) (fun x hx=>(hnu x hx).2) rfl rfl
          fz:=rfl,ng:=rfl,A:=rfl,bb:=rfl,nb:=rfl,bng:=rfl
          other:=fun x hx=>hnu x (fun hu=>hx hu.1)
          same:=hnu
          look:=⟨_,lookp _ _ (hgp t ht) _ _⟩
          gone:=fun r hr hg=>by
           simp only[St.setAt,St.killU,eh,eb.sub] at hg;split at hg
           ·omega
           ·exact hg }
 ·simp only[ae] at h;exact⟨bt, .inr ⟨rfl,h.symm⟩⟩
end
end
section
open Go Go.RowKit
section
variable {P:Program} {w0 w:World} {W:Nat->Prop} {bt:Bt} {S:St} {a:Act}
def Tk (w:World) (bt:Bt) (p:eb) (x:AV) (c:Value):Prop:=(∀q s lo len,x= .own q s lo len->q.r≠p.r->VR w bt x c)/\(x= .em->VR w bt x c)
theorem Tk.of_VR {p:eb} {x:AV} {c:Value} (h:VR w bt x c):Tk w bt p x c:=⟨fun _ _ _ _ _ _=>h,fun _=>h⟩
theorem Tk.mono {bt':Bt} {p:eb} {x:AV} {c:Value} (h:Tk w bt p x c) (hng:bt'.ng=bt.ng) (ho: ∀x:eb,x.r≠p.r->bt'.β x=bt.β x/\bt'.κ x=bt.κ x):Tk w bt' p x c:=by
 refine⟨fun q s lo len he hq=> ?_,fun he=> ?_⟩
 ·have:=h.1 q s lo len he hq;subst he;cases this with
  |own h1 h2 h3 h4=>exact .own (by rw[hng]; exact h1) h2 (by rw[(ho q hq).2]; exact h3) (by rw[(ho q hq).1]; exact h4)
 ·have:=h.2 he;subst he;cases this with
  |em b=>exact .em b
theorem pc (p:eb) (i szp:Nat) (cs:Array Value) (e:TypeId): ∀ (vs:List AV) (ss:List Nat) (j:Nat) (bt:Bt) (S S':St) (prows:List (List T)) (r0:List T),
  eK w0 W bt S w->ER w bt S a->S.look p= .sl szp prows->prows[i]? =some r0->j+vs.length<=r0.length->0<bt.κ p->S.fz<=p.r->w.heap[bt.β p]? =some (.cells cs e (0,0))->
  (∀ (k:Nat) (x:AV),vs[k]? =some x-> ∃c,cs[i*szp+(j+k)]? =some c/\Tk w bt p x c)->eC S p i j ss vs=some S'->
  ∃bt',eK w0 W bt' S' w/\ER w bt' S' a/\S'.fz=S.fz/\S'.ng=S.ng/\(∀x:eb,x.r≠p.r->bt'.β x=bt.β x/\bt'.κ x=bt.κ x)/\bt'.β p=bt.β p/\bt'.κ p=bt.κ p/\bt'.ng=bt.ng/\(∃prows' r1,S'.look p= .sl szp prows'/\prows'.length=prows.length/\prows'[i]? =some r1/\r1.length=r0.length/\ ∀i',i'≠i->prows'[i']? =prows[i']?)/\
   ∀r,r<S.fz->S'.gh r=none->S.gh r=none:=by
 intro vs
 induction vs with
 |nil=>
  intro ss j bt S S' prows r0 hI hE hp hi hj hk hfz hh hc h
  have :S'=S:=by cases ss<;>simp only[eC,ae] at h<;>exact h.symm
  subst this;exact⟨bt,hI,hE,rfl,rfl,fun _ _=>⟨rfl,rfl⟩,rfl,rfl,rfl,⟨prows,r0,hp,rfl,hi,rfl,fun _ _=>rfl⟩,fun _ _ h=>h⟩
 |cons v vs ih=>
  intro ss j bt S S' prows r0 hI hE hp hi hj hk hfz hh hc h;cases ss with
  |nil=>simp only[eC,ae] at h;subst h;exact⟨bt,hI,hE,rfl,rfl,fun _ _=>⟨rfl,rfl⟩,rfl,rfl,rfl,⟨prows,r0,hp,rfl,hi,rfl,fun _ _=>rfl⟩,fun _ _ h=>h⟩
  |cons sz ss=>
   simp only[eC,aj] at h;obtain⟨S1,h1,h2⟩:=h;simp only[aY] at hj
   have rest: ∀ (k:Nat) (x:AV),vs[k]? =some x-> ∃c,cs[i*szp+(j+1+k)]? =some c/\Tk w bt p x c:=by intro k x hk;obtain⟨c,g1,g2⟩:=hc (k+1) x (by simpa using hk);exact⟨c,by rw[show j+1+k=j+(k+1) by omega]; exact g1,g2⟩
   have stay:S1=S-> ∃bt',eK w0 W bt' S' w/\ER w bt' S' a/\S'.fz=S.fz/\S'.ng=S.ng/\(∀x:eb,x.r≠p.r->bt'.β x=bt.β x/\bt'.κ x=bt.κ x)/\bt'.β p=bt.β p/\bt'.κ p=bt.κ p/\bt'.ng=bt.ng/\(∃prows' r1,S'.look p= .sl szp prows'/\prows'.length=prows.length/\prows'[i]? =some r1/\r1.length=r0.length/\ ∀i',i'≠i->prows'[i']? =prows[i']?)/\
     ∀r,r<S.fz->S'.gh r=none->S.gh r=none:=by
    rintro rfl
    exact ih ss (j+1) bt S1 S' prows r0 hI hE hp hi (by omega) hk hfz hh rest h2
   split at h1
   ·simp only[ae] at h1;exact stay h1.symm
   ·obtain⟨c,g1,g2⟩:=hc 0 v rfl;obtain⟨bt1,hg| ⟨_,rfl⟩⟩:=zA hI hE hp hi (by omega) hk hfz hh g1 g2.1 g2.2 h1
    ·obtain⟨X,hX⟩:=hg.look;have hpp:=hg.same p (xP p i j)
     have hi': (prows.set i (r0.set j X))[i]? =some (r0.set j X):=by rw[bC];simp[(ai.1 hi).1]
     obtain⟨bt2,a1,a2,a3,a4,a5,a6,a7,a8,⟨pr',r1,b1,b2,b3,b4,b5⟩,a9⟩:=ih ss (j+1) bt1 S1 S' _ _ hg.inv hg.er hX hi' (by simp; omega) (by rw[hpp.2]; exact hk) (by rw[hg.fz]; exact hfz) (by rw[hpp.1]; exact hh)
      (fun k x hk'=>by obtain⟨c',m1,m2⟩:=rest k x hk';exact⟨c',m1,m2.mono hg.bng hg.other⟩) h2
     refine⟨bt2,a1,a2,a3.trans hg.fz,a4.trans hg.ng,fun x hx=>⟨(a5 x hx).1.trans (hg.other x hx).1,(a5 x hx).2.trans (hg.other x hx).2⟩,a6.trans hpp.1,a7.trans hpp.2,a8.trans hg.bng,⟨pr',r1,b1,by rw[b2]; simp,b3,by rw[b4]; simp,fun i' hi''=> ?_⟩,fun r hr hn=>hg.gone r hr (a9 r (by rw[hg.fz]; exact hr) hn)⟩;rw[b5 i' hi'',bC,if_neg (by omega)]
    ·exact stay rfl
theorem zB (hI:eK w0 W bt S w) (hE:ER w bt S a) {t:TypeId} {i:TypeInfo} (hi:P.info? t=some i) (hpos:0<P.cellsOf t) {av v:AV} {ad u:Value} {S':St} (ha:VR w bt av ad) (hv:VR w bt v u) (h:store P S t av v=some S'):
  ∃w' bt',(Instr.storeAt t ad u).run P w= .ok () w'/\fX w0 W bt S a bt' S' w':=by
 unfold store at h;simp only at h;split at h
 ·cases h
 ·rename_i hn
  have hsz:v.cells.length=P.cellsOf t:=by
   by_cases h1:v.cells.length=P.cellsOf t
   ·exact h1
   ·exact absurd (Or.inl h1) hn
  have hd:v.isDead=false:=by
   cases hv':v.isDead with
   |false=>rfl
   |true=>exact absurd (Or.inr hv') hn
  split at h
  ·rename_i b j;simp only[aj] at h;obtain⟨cells0,hb,h⟩:=h;split at h
   ·rename_i hle;simp only[ae] at h;subst h;cases ha with
    |ptrB j hlt=>obtain⟨w',h1,h2⟩:=xN hI hE hi hb hv hd hsz hle;exact⟨w',bt,h1,h2⟩
   ·cases h
  ·rename_i p sz i' j;simp only[aj] at h;obtain⟨S1,h1,h⟩:=h;cases ha with
   |ptrT sz i' j hp hk=>
    obtain⟨w',g1,g2,g3,rows,cs,e,g4,g5,g6,g7,g8,g9⟩:=v8 hI hE hi hv hd hsz hpos h1;split at h
    ·simp only[ae] at h;subst h;exact⟨w',bt,g1,g2⟩
    ·split at h
     ·rename_i hfz
      have hlook:S1.look p= .sl sz (rows.set i' ((rows.getD i' []).take j++v.cells.map T.ofSc++(rows.getD i' []).drop (j+v.cells.length))):=by
       rw[g7,my,if_pos rfl];have hp':=g4;unfold St.look at hp';split at hp'
       ·rename_i t0 ht0
        try rw[ht0]
        exact T.put_self _ _ _ (.inl (by rw[hp']; simp))
       ·cases hp'
      have hrow: (rows.set i' ((rows.getD i' []).take j++v.cells.map T.ofSc++(rows.getD i' []).drop (j+v.cells.length)))[i']? =some ((rows.getD i' []).take j++v.cells.map T.ofSc++(rows.getD i' []).drop (j+v.cells.length)):=by rw[bC];simp[g5]
      obtain⟨bt',a1,a2,a3,a4,a5,a6,a7,a8,_,a9⟩:=pc p i' sz cs e v.cells (ku P 9 t) j bt S1 S' _ _ g2.inv g2.er hlook hrow (by simp only[bn,cr,aB,ch]; omega)
       (by omega) (by rw[g2.fz]; exact hfz) g8 (fun k x hk'=>by obtain⟨c,m1,m2⟩:=g9 k x hk';exact⟨c,m1,Tk.of_VR m2⟩) h
      refine⟨w',bt',g1,⟨a1,a2,a3.trans g2.fz,trivial,by rw[a4]; exact g2.ng,fun x hx=>a5 x (by omega),fun r hr hn=>g2.gone r hr (a9 r (by rw[g2.fz]; exact hr) hn)⟩⟩
     ·cases h
  ·cases h
end
end
section
open Go Go.RowKit
section
variable {P:Program} {w0 w w':World} {W:Nat->Prop} {bt:Bt} {S:St} {a:Act}
structure E0 (w0:World) (W:Nat->Prop) (bt:Bt) (S:St) (b:Nat):Prop where
 ours:w0.heap.size<=b\/W b
 bx: ∀n cs,S.bx n=some cs->bt.bb n≠b
 tr: ∀p sz rows,S.look p= .sl sz rows->0<bt.κ p->bt.β p≠b
 A: ¬bt.A b
structure mA (w0:World) (W:Nat->Prop) (bt:Bt) (S:St) (w w':World):Prop where
 os:w'.os=w.os
 tape:w'.tape=w.tape
 output:w'.output=w.output
 size:w.heap.size<=w'.heap.size
 block: ∀b,b<w.heap.size->w'.heap[b]? =w.heap[b]? \/E0 w0 W bt S b
theorem mA.of_below (h:Below w.heap.size w w'):mA w0 W bt S w w':=⟨h.os,h.tape,h.output,h.size,fun b hb=> .inl (h.block b hb)⟩
theorem mA.A (h:mA w0 W bt S w w') (hI:eK w0 W bt S w): ∀b,bt.A b->w'.heap[b]? =w.heap[b]? :=fun b hb=>by
 rcases h.block b (hI.alt b hb) with h|h
 ·exact h
 ·exact absurd hb h.A
theorem eK.change (hI:eK w0 W bt S w) (h:mA w0 W bt S w w'):eK w0 W bt S w':=
 { os:=h.os.trans hI.os,tape:=h.tape.trans hI.tape,output:=h.output.trans hI.output,size:=bE hI.size h.size
   keep:=fun b hb hW=>by
    rcases h.block b (aW hb hI.size) with h|h
    ·exact h.trans (hI.keep b hb hW)
    ·rcases h.ours with h|h
     ·omega
     ·exact absurd h hW
   nb:=hI.nb,ng:=hI.ng
   bx:=fun n cells hn=>by
    obtain⟨h1,h2,h3⟩:=hI.bx n cells hn;refine⟨h1,h2,h3.mono (Bt.le.refl _) (by rw[hI.nb]; exact h1) (h.A hI) ?_⟩;rcases h.block _ (hI.bblt hn) with h|h
    ·exact h
    ·exact absurd rfl (h.bx _ _ hn)
   gh:=hI.gh
   tr:=fun p sz rows hp=>by
    obtain⟨h1,h2⟩:=hI.tr p sz rows hp;refine⟨h1,fun hk=>⟨(h2 hk).1,(h2 hk).2.mono (Bt.le.refl _) (hI.look_lt hp) ?_⟩⟩;rcases h.block _ (hI.βlt hp hk) with h|h
    ·exact h
    ·exact absurd rfl (h.tr _ _ _ hp hk)
   inj:=hI.inj,bbinj:=hI.bbinj,bbtr:=hI.bbtr
   alt:=fun b hb=>aW (hI.alt b hb) h.size
   atr:=hI.atr,abb:=hI.abb }
theorem pN {sz:Nat} {rows:List (List T)} {p:eb} {s:Nat} {rs:List (List T)} (h: (jY [.sl sz rows]).look p= .sl s rs):
  p.r=0/\((p.l= [] /\s=sz/\rs=rows)\/ ∃i j l r x,p.l=(i,j)::l/\rows[i]? =some r/\r[j]? =some x/\x.go l= .sl s rs):=by
 unfold St.look jY at h;simp only at h;obtain⟨r,l⟩:=p;cases r with
 |succ r=>simp at h
 |zero=>
  refine⟨rfl,?_⟩;simp only[aF] at h;cases l with
  |nil=>simp only[T.go,T.sl.injEq] at h;exact .inl ⟨rfl,h.1.symm,h.2.symm⟩
  |cons x l=>obtain⟨i,j⟩:=x;obtain⟨sz',rows',r,x,e,h1,h2,h3⟩:=T.go_cons_sl (t:= .sl sz rows) (i:=i) (j:=j) (l:=l) (by rw[h]; simp);simp only[T.sl.injEq] at e;obtain⟨rfl,rfl⟩:=e;exact .inr ⟨i,j,l,r,x,rfl,h1,h2,h3 ▸ h⟩
theorem GU (S:St) (t:T):S.add [t] = { S with gh:=eh S.gh S.ng (some t),ng:=S.ng+1 } :=by
 unfold St.add eh
 congr 1
 funext n
 by_cases h:n=S.ng
 ·subst h;simp
 ·rw[if_neg (by simp; omega),if_neg h]
theorem xQ (hI:eK w0 W bt S w) (hE:ER w bt S a) (hfz:S.fz<=S.ng) (hch:mA w0 W bt S w w') {sz:Nat} {rows:List (List T)} (btn:Bt)
  (htr: ∀p s rs,(jY [.sl sz rows]).look p= .sl s rs->rs.length<=btn.κ p/\(0<btn.κ p->(w0.heap.size<=btn.β p\/W (btn.β p))/\IP w' btn p s rs))
  (hinj: ∀p q s rows' s' rows'',(jY [.sl sz rows]).look p= .sl s rows'->(jY [.sl sz rows]).look q= .sl s' rows''->0<btn.κ p->0<btn.κ q->btn.β p=btn.β q->p=q)
  (hsep: ∀p s rs,(jY [.sl sz rows]).look p= .sl s rs->0<btn.κ p->(∀n cs,S.bx n=some cs->bt.bb n≠btn.β p)/\(∀q s rs,S.look q= .sl s rs->0<bt.κ q->bt.β q≠btn.β p)/\ ¬bt.A (btn.β p)):
  ∃bt',fX w0 W bt S a bt' { S with gh:=eh S.gh S.ng (some (.sl sz rows)),ng:=S.ng+1 } w'/\bt.le bt'/\bt'.ng=S.ng+1/\bt'.β ⟨S.ng,[]⟩=btn.β ⟨0,[]⟩/\bt'.κ ⟨S.ng,[]⟩=btn.κ ⟨0,[]⟩:=by
 have h:=(hI.change hch).addRoots btn [.sl sz rows] htr hinj hsep;rw[GU] at h;have hle:=Bt.le_add bt btn 1;have e0: (if bt.ng<=S.ng then (0:Nat) else 1)=0:=by rw[if_pos (by rw[hI.ng]; exact aw _)]
 refine⟨_,⟨h,⟨hE.1,fun t=>(hE.2 t).mono hle (hch.A hI)⟩,rfl,trivial,cF _,fun p hp=>⟨hle.β p (by rw[hI.ng]; omega),hle.κ p (by rw[hI.ng]; omega)⟩,fun r hr hn=> ?_⟩,hle,?_,?_,?_⟩
 ·simp only[eh] at hn
  rwa [if_neg (by omega)] at hn
 ·show bt.ng+1=S.ng+1;rw[hI.ng]
 ·show (if bt.ng<=S.ng then btn.β ⟨S.ng-bt.ng,[]⟩ else _)=_;rw[hI.ng,if_pos (aw _),db]
 ·show (if bt.ng<=S.ng then btn.κ ⟨S.ng-bt.ng,[]⟩ else _)=_;rw[hI.ng,if_pos (aw _),db]
inductive CR:T->Value->Prop where
 |sc {v:Value} (h:kt v=true):CR (.sc v) v
 |dd (u:Value):CR .dd u
 |em (sz:Nat) (a:Option Addr):CR (.sl sz []) (.slice a 0 0)
theorem CR.hr {x:T} {c:Value} (h:CR x c) (bt:Bt) (p:eb):HR bt p x c:=by
 cases h with
 |sc h=>exact .sc h
 |dd=>exact .dd _
 |em sz a=>exact .sl (rows:= []) (aw _) (ba _) (fun h=>absurd h (by omega))
theorem CR.go {x:T} {c:Value} (h:CR x c) {l:List (Nat×Nat)} {s:Nat} {rs:List (List T)} (hg:x.go l= .sl s rs):rs= [] :=by
 cases h with
 |sc h=>
  cases l with
  |nil=>cases hg
  |cons y l=>rw[T.sc_go] at hg; cases hg
 |dd u=>rw[T.dd_go] at hg; cases hg
 |em sz a=>
  cases l with
  |nil=>simp only[T.go,T.sl.injEq] at hg; exact hg.2.symm
  |cons y l=>obtain⟨i,j⟩:=y;simp[T.go,T.cell,T.dd_go] at hg
theorem CR.ofSc {x:AV} {c:Value} (h:VR w bt x c):CR (T.ofSc x) c:=by
 cases h with
 |sc h=>exact .sc h
 | _=>exact .dd _
theorem sk (hI:eK w0 W bt S w) (hE:ER w bt S a) (hfz:S.fz<=S.ng) (hb:Below w.heap.size w w') {sz cap:Nat} {rows:List (List T)} {cs:Array Value} {e:TypeId}
  (hh:w'.heap[w.heap.size]? =some (.cells cs e (0,0))) (hcap:rows.length<=cap) (hsz:cap*sz<=cs.size) (hone: ∀ (k:Nat) (u:Value),cs[k]? =some u->u.oneCell'=true)
  (hrow: ∀ (i:Nat) (r:List T),rows[i]? =some r->r.length=sz/\ ∀ (j:Nat) (x:T),r[j]? =some x-> ∃c,cs[i*sz+j]? =some c/\CR x c):
  ∃bt',fX w0 W bt S a bt' { S with gh:=eh S.gh S.ng (some (.sl sz rows)),ng:=S.ng+1 } w'/\bt.le bt'/\bt'.ng=S.ng+1/\bt'.β ⟨S.ng,[]⟩=w.heap.size/\bt'.κ ⟨S.ng,[]⟩=cap:=by
 obtain⟨f1,f2,f3⟩:=hI.fresh (b:=w.heap.size) (aw _)
 have hκ: ∀p s rs,(jY [.sl sz rows]).look p= .sl s rs->0< (if p.l= [] then cap else 0)->p=⟨0,[]⟩/\s=sz/\rs=rows:=by
  intro p s rs h hk;obtain⟨h0,h1⟩:=pN h;split at hk
  ·rename_i hl;obtain⟨pr,pl⟩:=p;simp only at h0 hl;subst h0 hl;rcases h1 with ⟨_,h1⟩| ⟨i,j,l,r,x,h1,_⟩
   ·exact⟨rfl,h1⟩
   ·cases h1
  ·omega
 have:=xQ hI hE hfz (mA.of_below hb) (sz:=sz) (rows:=rows) { bt with β:=fun _=>w.heap.size,κ:=fun p=>if p.l= [] then cap else 0 }
  (fun p s rs h=>by
    obtain⟨h0,h1⟩:=pN h;refine⟨?_,fun hk=> ?_⟩
    ·rcases h1 with ⟨hl,_,rfl⟩| ⟨i,j,l,r,x,hl,h2,h3,h4⟩
     ·simp only[hl,if_true]; exact hcap
     ·obtain⟨_,g2⟩:=hrow i r h2;obtain⟨c,_,g3⟩:=g2 j x h3;rw[g3.go h4];exact ba _
    ·obtain⟨rfl,rfl,rfl⟩:=hκ _ _ _ h hk;refine⟨.inl hI.size,cs,e,hh,by simpa using hsz,hone,fun i r hi=> ?_⟩;obtain⟨g1,g2⟩:=hrow i r hi;refine⟨g1,fun j x hj=> ?_⟩;obtain⟨c,g3,g4⟩:=g2 j x hj;exact⟨c,g3,g4.hr _ _⟩)
  (fun p q s rs s' rs' h h' hk hk' _=>by rw[(hκ _ _ _ h hk).1,(hκ _ _ _ h' hk').1])
  (fun p s rs h hk=>⟨f1,f2,f3⟩)
 simpa using this
theorem mh {bt':Bt} {n:Nat} (hng:bt'.ng=n+1) {sz len cap b:Nat} (hβ:bt'.β ⟨n,[]⟩=b) (hκ:bt'.κ ⟨n,[]⟩=cap) (hl:len<=cap):VR w' bt' (.own ⟨n,[]⟩ sz 0 len) (.slice (some ⟨b,0,none⟩) len cap):=
 .own (by show n<_; omega) hl (by omega) (fun _=>by rw[hβ,cm])
theorem pO {e:TypeId} {z:List T} (h:tJ P e=some z): ∃zs,se P e=some zs/\zs.length=P.cellsOf e/\z.length=P.cellsOf e/\ ∀ (j:Nat) (x:T),z[j]? =some x-> ∃c,zs[j]? =some c/\CR x c:=by
 unfold tJ at h;simp only[aj] at h;obtain⟨zs,h1,h2⟩:=h;split at h2
 ·rename_i hc;simp only[ae] at h2;subst h2;refine⟨zs,h1,hc.1,by simp[hc.1,hc.2],fun j x hj=> ?_⟩;rw[bf] at hj;split at hj
  ·rename_i s v e1 e2;simp only[ae] at hj;subst hj;refine⟨v,e2,?_⟩;unfold zc;split
   ·exact .sc ‹_›
   ·split
    ·exact .em _ _
    ·exact .dd _
  ·cases hj
 ·cases h2
theorem tK (hI:eK w0 W bt S w) (hE:ER w bt S a) (hfz:S.fz<=S.ng) {t el:TypeId} {z:List T} {kl kc:IntKind} {n:Int} (hel:o6 P t=some el) (hz:tJ P el=some z) (h0:0<=n)
  (hby:P.bytesOf el*n<=2 ^ 40) (hn:n<=2 ^ 40):
  ∃u w' bt',(Instr.makeSlice t (.int kl n) (.int kc n)).run P w= .ok u w'/\
   fX w0 W bt S a bt' { S with gh:=eh S.gh S.ng (some (.sl (P.cellsOf el) (List.replicate n.toNat z))),ng:=S.ng+1 } w'/\VR w' bt' (.own ⟨S.ng,[]⟩ (P.cellsOf el) 0 n.toNat) u:=by
 obtain⟨zs,h1,h2,h3,h4⟩:=pO hz;obtain⟨i,zv,hi,hzv,rfl,hall⟩:=jM h1;have hb:P.bytesOf el=i.bytes:=by simp[Program.bytesOf,hi]
 have hs:P.cellsOf el=i.size:=by simp[Program.cellsOf,hi]
 have hrun:=run_make (P:=P) w t el i zv (gK hel) hi hzv kl kc n n h0 (cg _) (by rw[hb] at hby; omega) (by omega);have hzl:zv.cells.size=P.cellsOf el:=by simpa using h2
 have mk: ∀ (r j:Nat),r<n.toNat->j<P.cellsOf el->(madeCells zv.cells (n.toNat*i.size))[r*P.cellsOf el+j]? =zv.cells[j]? :=by
  intro r j hr hj
  have hlt:r*P.cellsOf el+j<n.toNat*i.size:=by rw[<-hs];have : (r+1)*P.cellsOf el<=n.toNat*P.cellsOf el:=bG _ hr;rw[bS] at this;omega
  have hmod: (r*P.cellsOf el+j) % zv.cells.size=j:=by rw[hzl,ct,cA,dp hj]
  simp only[madeCells];rw[cK,cD,if_pos hlt];simp only[az,hmod];rw[aI (by omega),getElem!_pos zv.cells j (by omega)]
 obtain⟨bt',g1,g2,g3,g4,g5⟩:=sk (cap:=n.toNat) (sz:=P.cellsOf el) (rows:=List.replicate n.toNat z) (cs:=madeCells zv.cells (n.toNat*i.size)) (e:=el) hI hE hfz (ka w (.cells _ el)) (mz w _) (by simp) (by rw[size_madeCells,hs]; exact aw _)
  (fun k u hk=>by
    simp only[madeCells] at hk;rw[cK,cD] at hk;split at hk
    ·rename_i hlt;simp only[az,ae] at hk
     have hpos:0<zv.cells.size:=by
      rw[hzl,hs];rcases bc i.size with h|h
      ·rw[h] at hlt; omega
      ·exact h
     have hm:k % zv.cells.size<zv.cells.size:=Nat.mod_lt _ hpos;rw[getElem!_pos zv.cells _ hm] at hk;subst hk;exact au.1 hall _ (by simp)
    ·cases hk)
  (fun r row hr=>by
    rw[cI] at hr;split at hr
    ·rename_i hlt;simp only[ae] at hr;subst hr;refine⟨h3,fun j x hj=> ?_⟩;obtain⟨c,k1,k2⟩:=h4 j x hj
     have hjl:j<P.cellsOf el:=by have:=(ai.1 hj).1;omega
     exact⟨c,by rw[mk r j hlt hjl]; simpa using k1,k2⟩
    ·cases hr)
 exact⟨_,_,bt',hrun,g1,mh g3 g4 g5 (aw _)⟩
theorem wc (hI:eK w0 W bt S w) (hE:ER w bt S a) (hfz:S.fz<=S.ng) {t tn ty el:TypeId} {kn kq:IntKind} {z:List T} {n:Int} {ab:Option Addr} (hel:o6 P t=some el) (htn:P.underlying tn=some (.int kn)) (hz:tJ P el=some z) (h0:0<n)
  (hby:P.bytesOf el*n<=2 ^ 40) (hn:n<=2 ^ 40) (hpos:0<P.cellsOf el):
  ∃u w' bt',(Builtin.append_ #[t,tn] ty #[.slice ab 0 0, .int kq n]).run P w= .ok u w'/\
   fX w0 W bt S a bt' { S with gh:=eh S.gh S.ng (some (.sl (P.cellsOf el) (List.replicate n.toNat z))),ng:=S.ng+1 } w'/\VR w' bt' (.own ⟨S.ng,[]⟩ (P.cellsOf el) 0 n.toNat) u:=by
 obtain⟨zs,h1,h2,h3,h4⟩:=pO hz;obtain⟨i,zv,hi,hzv,rfl,hall⟩:=jM h1;have hb:P.bytesOf el=i.bytes:=by simp[Program.bytesOf,hi]
 have hs:P.cellsOf el=i.size:=by simp[Program.cellsOf,hi]
 obtain⟨k,rfl⟩:=dh (du h0);have hk0:0<k:=by omega
 have hkb:k*i.bytes<=2 ^ 40:=by
  rw[hb,<-Int.natCast_mul] at hby;have : ((i.bytes*k:Nat):Int)<=((2 ^ 40:Nat):Int):=by simpa using hby
  rw[Nat.mul_comm];exact Int.ofNat_le.1 this
 have hold: (Builtin.firstCells i.size 0 (.slice ab 0 0)).run P w.drew= .ok ([]:List Value).toArray w.drew:=by cases ab<;>simp[Builtin.firstCells,loadCells,loadCellsFrom]
 have hrun:=Go.Lib.run_append_grow_zeros (P:=P) w t tn ty el i zv kq kn (gK hel) htn hi hzv ab 0 0 [] hold k hk0 (by rw[<-hs]; exact hpos) (by omega) (by omega) (by omega) (by rw[aV,nextslicecap_zero hk0]; omega);simp only[aV] at hrun;have hge:=grownCap_ge w k 0 el;generalize grownCap w k 0 el=c at hrun hge;have hzl:zv.cells.size=P.cellsOf el:=by simpa using h2
 have hzp:0<zv.cells.size:=by rw[hzl]; exact hpos
 have hmem: ∀ (m q:Nat) (u:Value),(Builtin.zeroCells zv.cells m)[q]? =some u->u=zv.cells[q % zv.cells.size]'(Nat.mod_lt _ hzp)/\q<m*zv.cells.size:=by
  intro m q u hu;unfold Builtin.zeroCells at hu;rw[cK,cD] at hu;split at hu
  ·rename_i hlt;simp only[az,ae] at hu;rw[getElem!_pos zv.cells _ (Nat.mod_lt _ hzp)] at hu;exact⟨hu.symm,hlt⟩
  ·cases hu
 have hsize: ((#[]:Array Value)++Builtin.zeroCells zv.cells k++Builtin.zeroCells zv.cells (c-k)).size=c*P.cellsOf el:=by
  simp only[Array.size_append,size_zeroCells,hzl];have :c*P.cellsOf el=k*P.cellsOf el+(c-k)*P.cellsOf el:=by rw[<-bS]; congr 1; omega
  rw[this];simp
 have hwb:Below w.heap.size w (w.drew.alloc (.cells ((#[]:Array Value)++Builtin.zeroCells zv.cells k++Builtin.zeroCells zv.cells (c-k)) el)):=
  ⟨rfl,rfl,rfl,by show w.heap.size<=(w.heap.push _).size; simp,fun q hq=>by show (w.heap.push _)[q]? =_; simp[Array.getElem?_push,Nat.ne_of_lt hq]⟩
 obtain⟨bt',g1,g2,g3,g4,g5⟩:=sk (cap:=c) (sz:=P.cellsOf el) (rows:=List.replicate k z) (cs:=(#[]:Array Value)++Builtin.zeroCells zv.cells k++Builtin.zeroCells zv.cells (c-k)) (e:=el) hI hE hfz hwb (by show (w.heap.push _)[w.heap.size]? =_; simp) (by simpa using hge) (by rw[hsize]; exact aw _)
  (fun q u hq=>by
    rw[cL] at hq;rcases bU q (Builtin.zeroCells zv.cells k).size with hl|hl
    ·rw[bW hl] at hq;obtain⟨rfl,_⟩:=hmem _ _ _ hq;exact au.1 hall _ (by simp)
    ·rw[Array.getElem?_append_right hl] at hq;obtain⟨rfl,_⟩:=hmem _ _ _ hq;exact au.1 hall _ (by simp))
  (fun r row hr=>by
    rw[cI] at hr;split at hr
    ·rename_i hlt;simp only[ae] at hr;subst hr;refine⟨h3,fun j x hx=> ?_⟩;obtain⟨cv,k1,k2⟩:=h4 j x hx;have hj:j<P.cellsOf el:=by rw[<-h3]; exact (ai.1 hx).1
     have hlt2:r*P.cellsOf el+j<k*zv.cells.size:=by rw[hzl];have : (r+1)*P.cellsOf el<=k*P.cellsOf el:=bG _ hlt;rw[bS] at this;omega
     have hmod: (r*P.cellsOf el+j) % zv.cells.size=j:=by rw[hzl,ct,cA,dp hj]
     refine⟨cv,?_,k2⟩;rw[cL,bW (by rw[size_zeroCells]; exact hlt2)];unfold Builtin.zeroCells;rw[cK,cD,if_pos hlt2];simp only[az,hmod];rw[getElem!_pos zv.cells j (by omega)];have :zv.cells.toList[j]? =some cv:=k1;rw[cj,aI (by omega)] at this;exact this
    ·cases hr)
 rw[aA];exact⟨_,_,bt',hrun,g1,mh g3 g4 g5 hge⟩
theorem eK.more (hI:eK w0 W bt S w) {A:Nat->Prop} (hA: ∀b,bt.A b->A b) (hlt: ∀b,A b->b<w.heap.size) (hn: ∀b,A b->bt.A b\/((∀n cs,S.bx n=some cs->bt.bb n≠b)/\ ∀p s rs,S.look p= .sl s rs->0<bt.κ p->bt.β p≠b)):
  eK w0 W { bt with A:=A } S w/\bt.le { bt with A:=A } :=by
 have hle:bt.le { bt with A:=A } :=⟨aw _,aw _,hA,fun _ _=>rfl,fun _ _=>rfl,fun _ _=>rfl⟩
 refine⟨{ os:=hI.os,tape:=hI.tape,output:=hI.output,size:=hI.size,keep:=hI.keep,nb:=hI.nb,ng:=hI.ng
          bx:=fun n cells h=>by obtain⟨h1,h2,h3⟩:=hI.bx n cells h;exact⟨h1,h2,h3.mono hle (by rw[hI.nb]; exact h1) (fun _ _=>rfl) rfl⟩
          gh:=hI.gh
          tr:=fun p s rs h=>by obtain⟨h1,h2⟩:=hI.tr p s rs h;exact⟨h1,fun hk=>⟨(h2 hk).1,(h2 hk).2.mono hle (hI.look_lt h) rfl⟩⟩
          inj:=hI.inj,bbinj:=hI.bbinj,bbtr:=hI.bbtr,alt:=hlt
          atr:=fun p s rs h hk ha=>by
           rcases hn _ ha with h'|h'
           ·exact hI.atr p s rs h hk h'
           ·exact h'.2 p s rs h hk rfl
          abb:=fun n cs h ha=>by
           rcases hn _ ha with h'|h'
           ·exact hI.abb n cs h h'
           ·exact h'.1 n cs h rfl },hle⟩
end
end
section
open Go Go.RowKit
section
variable {P:Program} {w0 w w':World} {W:Nat->Prop} {bt:Bt} {S:St} {a:Act}
theorem xR (p:eb) (szp:Nat) (cs:Array Value) (e:TypeId) (ss:List Nat) (len:Nat): ∀ (parts:List (Nat×List AV)) (bt:Bt) (S S':St) (prows:List (List T)),
  eK w0 W bt S w->ER w bt S a->S.look p= .sl szp prows->prows.length=len->(∀ (i:Nat) (r:List T),prows[i]? =some r->r.length=szp)->0<bt.κ p->S.fz<=p.r->w.heap[bt.β p]? =some (.cells cs e (0,0))->
  (∀x∈parts,x.1<len/\x.2.length=szp/\ ∀ (k:Nat) (v:AV),x.2[k]? =some v-> ∃c,cs[x.1*szp+k]? =some c/\Tk w bt p v c)->
  parts.foldlM (fun (S':St) x=>eC S' p x.1 0 ss x.2) S=some S'->
  ∃bt',eK w0 W bt' S' w/\ER w bt' S' a/\S'.fz=S.fz/\S'.ng=S.ng/\(∀x:eb,x.r≠p.r->bt'.β x=bt.β x/\bt'.κ x=bt.κ x)/\bt'.β p=bt.β p/\bt'.κ p=bt.κ p/\bt'.ng=bt.ng/\ ∀r,r<S.fz->S'.gh r=none->S.gh r=none:=by
 intro parts
 induction parts with
 |nil=>intro bt S S' prows hI hE _ _ _ _ _ _ _ h;simp only[List.foldlM_nil,c9,ae] at h;subst h;exact⟨bt,hI,hE,rfl,rfl,fun _ _=>⟨rfl,rfl⟩,rfl,rfl,rfl,fun _ _ h=>h⟩
 |cons x parts ih=>
  intro bt S S' prows hI hE hp hl hr hk hfz hh hc h;simp only[List.foldlM_cons,dw,aj] at h;obtain⟨S1,h1,h2⟩:=h;obtain⟨c1,c2,c3⟩:=hc x aH;have hi:prows[x.1]? =some (prows[x.1]'(by omega)):=ah _;have hrl:=hr _ _ hi
  obtain⟨bt1,a1,a2,a3,a4,a5,a6,a7,a8,⟨pr',r1,b1,b2,b3,b4,b5⟩,a9⟩:=pc p x.1 szp cs e x.2 ss 0 bt S S1 prows _ hI hE hp hi (by omega) hk hfz hh (fun k v hk'=>by obtain⟨c,g1,g2⟩:=c3 k v hk';exact⟨c,by rw[aV]; exact g1,g2⟩) h1
  obtain⟨bt2,d1,d2,d3,d4,d5,d6,d7,d8,d9⟩:=ih bt1 S1 S' pr' a1 a2 b1 (by omega) (fun i r hi'=>by
    by_cases hx:i=x.1
    ·subst hx;rw[b3] at hi';simp only[ae] at hi';subst hi';omega
    ·rw[b5 i hx] at hi';exact hr i r hi') (by rw[a7]; exact hk) (by rw[a3]; exact hfz) (by rw[a6]; exact hh) (fun y hy=>by
    obtain⟨e1,e2,e3⟩:=hc y (aE _ hy);refine⟨e1,e2,fun k v hk'=> ?_⟩;obtain⟨c,g1,g2⟩:=e3 k v hk';exact⟨c,g1,g2.mono a8 a5⟩) h2
  exact⟨bt2,d1,d2,d3.trans a3,d4.trans a4,fun y hy=>⟨(d5 y hy).1.trans (a5 y hy).1,(d5 y hy).2.trans (a5 y hy).2⟩,d6.trans a6,d7.trans a7,d8.trans a8,fun r hr' hn=>a9 r hr' (d9 r (by rw[a3]; exact hr') hn)⟩
theorem rn {α:Type}: ∀ (l:List (Nat×α)) (n:Nat),l.map (·.1)=List.range' n l.length->((l.map (·.2)).zipIdx n).map (fun x=>(x.2,x.1))=l
 | [],n,_=>rfl
 |x::l,n,h=>by simp only[aP,aY,ci,bo] at h;simp only[aP,List.zipIdx_cons,aP];rw[rn l (n+1) h.2,<-h.1]
theorem mB (hE:ER w bt S a) {t el:TypeId} {len:Nat} {parts:Array (Nat×Operand)} (hel:o6 P t=some el) (h20:len*P.cellsOf el<=2 ^ 20)
  (hix:parts.toList.map (·.1)=List.range len) (hpos:0<P.cellsOf el) (hz: (se P el).isSome=true) (hall:parts.toList.all (fun x=>(opd S x.2).cells.length=P.cellsOf el&& !(opd S x.2).isDead)=true):
  ∃cs:Array Value,(Instr.buildSlice t len (parts.map fun x=>(x.1,a.eval x.2))).run P w= .ok (.slice (some ⟨w.heap.size,0,none⟩) len len) { w with heap:=w.heap.push (.cells cs el (0,0)) } /\cs.size=len*P.cellsOf el/\
   (∀ (r:Nat) (x:Nat×Operand) (j:Nat) (v:AV),parts.toList[r]? =some x->(opd S x.2).cells[j]? =some v-> ∃c,cs[r*P.cellsOf el+j]? =some c/\VR w bt v c/\c.oneCell'=true)/\ ∀ (k:Nat) (u:Value),cs[k]? =some u->u.oneCell'=true:=by
 obtain⟨zs,hz⟩:=bu.1 hz;obtain⟨i,zv,hi,hzv,rfl,hza⟩:=jM hz;have hs:P.cellsOf el=i.size:=by simp[Program.cellsOf,hi]
 have hpl:parts.toList.length=len:=by have:=congrArg List.length hix;simpa using this
 have hpart: ∀ (r:Nat) (x:Nat×Operand),parts.toList[r]? =some x->x.1=r/\(opd S x.2).cells.length=P.cellsOf el/\(opd S x.2).isDead=false:=by
  intro r x hx;refine⟨?_,?_⟩
  ·have h1: (parts.toList.map (·.1))[r]? =some x.1:=by rw[an,hx]; rfl
   rw[hix,ai] at h1;obtain⟨_,h1⟩:=h1;simpa using h1.symm
  ·have:=au.1 hall x (aq hx);simpa using this
 have hvs: ∀v∈parts.toList.map (fun x=>a.eval x.2),v.cells.size=P.cellsOf el:=by intro v hv;obtain⟨x,hx,rfl⟩:=aL.1 hv;obtain⟨r,hr,hxr⟩:=aM hx;obtain⟨_,h1,h2⟩:=hpart r x (by rw[<-hxr]; exact ah hr);rw[(nU (ek hE x.2) h2).1,h1]
 have hrun: ∃cs:Array Value,(Instr.buildSlice t len (parts.map fun x=>(x.1,a.eval x.2))).run P w= .ok (.slice (some ⟨w.heap.size,0,none⟩) len len) { w with heap:=w.heap.push (.cells cs el (0,0)) } /\cs.size=len*P.cellsOf el/\
   ∀k,cs[k]? =((parts.toList.map (fun x=>a.eval x.2))[k / P.cellsOf el]?).bind (fun v=>v.cells[k % P.cellsOf el]?):=by
  have hf:Instr.fill (fun i=>some (i*P.cellsOf el,P.cellsOf el)) ((Array.range (len*P.cellsOf el)).map (zv.cells[· % zv.cells.size]!)) (parts.map fun x=>(x.1,a.eval x.2)).toList=some ((parts.toList.map (fun x=>a.eval x.2)).flatMap fun v=>v.cells.toList).toArray:=by
   have:=Go.Great.fill_whole hpos (parts.toList.map (fun x=>a.eval x.2)) ((Array.range (len*P.cellsOf el)).map (zv.cells[· % zv.cells.size]!)) hvs (by simp; rw[<-hpl]; simp);rw[<-this]
   congr 1
   have h2:=rn (parts.toList.map fun x=>(x.1,a.eval x.2)) 0 (by rw[bi];have : ((fun x:Nat×Value=>x.1)∘fun x:Nat×Operand=>(x.1,a.eval x.2))=(fun x=>x.1):=rfl;rw[this,hix,aB,hpl,cn])
   rw[Array.toList_map,<-h2,bi];rfl
  refine⟨((parts.toList.map (fun x=>a.eval x.2)).flatMap fun v=>v.cells.toList).toArray,?_,?_,fun k=> ?_⟩
  ·rcases bc len with h0|h0
   ·have hp0:parts= #[] :=by
     apply Array.ext';exact be (by rw[hpl,h0])
    subst h0;subst hp0;simp[Instr.buildSlice,run_underlying (gK hel),sizeOf,typeInfo,hi,newRow,Instr.fill,Array.range_zero']
   ·rw[hs] at hf;have:=run_buildSlice (P:=P) w t el len (parts.map fun x=>(x.1,a.eval x.2)) _ i zv (gK hel) hi hzv (by rw[<-hs]; omega) (by rw[<-hs]; have:=Nat.mul_pos h0 hpos; omega) hf;rw[this];rfl
  ·rw[dk]
   have : ∀ (l:List Value),(∀v∈l,v.cells.size=P.cellsOf el)->(l.flatMap fun v=>v.cells.toList).length=l.length*P.cellsOf el:=by
    intro l
    induction l with
    |nil=>intro _; simp
    |cons v l ih=>intro h;rw[List.flatMap_cons,bn,ih (fun v hv=>h v (aE _ hv)),aY,bS];have:=h v aH;simp only[b7];omega
   rw[this _ hvs];simp[<-hpl]
  ·rw[cy,Go.Great.flat_get hpos _ hvs k]
 obtain⟨cs,hrun,hcs,hget⟩:=hrun
 have dm: ∀ (r j:Nat),j<P.cellsOf el->(r*P.cellsOf el+j) / P.cellsOf el=r/\(r*P.cellsOf el+j) % P.cellsOf el=j:=by
  intro r j hj;constructor
  ·rw[ct,Nat.add_mul_div_right _ _ hpos,Nat.div_eq_of_lt hj,aV]
  ·rw[ct,cA,dp hj]
 have hcell: ∀ (r:Nat) (x:Nat×Operand) (j:Nat) (v:AV),parts.toList[r]? =some x->(opd S x.2).cells[j]? =some v-> ∃c,cs[r*P.cellsOf el+j]? =some c/\VR w bt v c/\c.oneCell'=true:=by
  intro r x j v hx hv;obtain⟨_,h1,h2⟩:=hpart r x hx;obtain⟨_,_,h3⟩:=nU (ek hE x.2) h2;obtain⟨c,k1,k2,k3⟩:=h3 j v hv;have hj:j<P.cellsOf el:=by rw[<-h1]; exact (ai.1 hv).1
  refine⟨c,?_,k2,k3⟩;rw[hget,(dm r j hj).1,(dm r j hj).2,an,hx];exact k1
 refine⟨cs,hrun,hcs,hcell,fun k u hk=> ?_⟩;rw[hget] at hk;simp only[aj,an,ak] at hk;obtain⟨v,⟨x,hx,rfl⟩,hu⟩:=hk;obtain⟨_,_,h2⟩:=hpart _ x hx;obtain⟨_,h3,_⟩:=nU (ek hE x.2) h2;exact h3 u (aq (by simpa using hu))
theorem sn (hI:eK w0 W bt S w) (hE:ER w bt S a) (hfz:S.fz<=S.ng) {t el:TypeId} {len:Nat} {parts:Array (Nat×Operand)} {S2:St} (hel:o6 P t=some el) (h20:len*P.cellsOf el<=2 ^ 20)
  (hix:parts.toList.map (·.1)=List.range len) (hpos:0<P.cellsOf el) (hz: (se P el).isSome=true) (hall:parts.toList.all (fun x=>(opd S x.2).cells.length=P.cellsOf el&& !(opd S x.2).isDead)=true)
  (hg: (if (ku P 9 el).all (· ==0) then some { S with gh:=eh S.gh S.ng (some (.sl (P.cellsOf el) (parts.toList.map fun x=>(opd S x.2).cells.map T.ofSc))),ng:=S.ng+1 }
    else parts.toList.foldlM (fun S' x=>eC S' ⟨S.ng,[]⟩ x.1 0 (ku P 9 el) (opd S x.2).cells) { S with gh:=eh S.gh S.ng (some (.sl (P.cellsOf el) (parts.toList.map fun x=>(opd S x.2).cells.map T.ofSc))),ng:=S.ng+1 })=some S2):
  ∃u w' bt',(Instr.buildSlice t len (parts.map fun x=>(x.1,a.eval x.2))).run P w= .ok u w'/\fX w0 W bt S a bt' S2 w'/\VR w' bt' (.own ⟨S.ng,[]⟩ (P.cellsOf el) 0 len) u/\((ku P 9 el).all (· ==0)=true->bt.le bt'):=by
 obtain⟨cs,hrun,hcs,hcell,hone⟩:=mB (P:=P) (w:=w) (bt:=bt) hE hel h20 hix hpos hz hall
 have hpl:parts.toList.length=len:=by have:=congrArg List.length hix;simpa using this
 have hpart: ∀ (r:Nat) (x:Nat×Operand),parts.toList[r]? =some x->x.1=r/\(opd S x.2).cells.length=P.cellsOf el/\(opd S x.2).isDead=false:=by
  intro r x hx;refine⟨?_,?_⟩
  ·have h1: (parts.toList.map (·.1))[r]? =some x.1:=by rw[an,hx]; rfl
   rw[hix,ai] at h1;obtain⟨_,h1⟩:=h1;simpa using h1.symm
  ·have:=au.1 hall x (aq hx);simpa using this
 obtain⟨bt',g1,g2,g3,g4,g5⟩:=sk (cap:=len) (sz:=P.cellsOf el) (rows:=parts.toList.map fun x=>(opd S x.2).cells.map T.ofSc) (cs:=cs) (e:=el) hI hE hfz (ka w (.cells cs el)) (mz w _) (by simp[<-hpl]) (by rw[hcs]; exact aw _)
  hone
  (fun r row hr=>by simp only[an,ak] at hr;obtain⟨x,hx,rfl⟩:=hr;obtain⟨_,h1,h2⟩:=hpart r x hx;refine⟨by simpa using h1,fun j y hy=> ?_⟩;simp only[an,ak] at hy;obtain⟨v,hv,rfl⟩:=hy;obtain⟨c,k1,k2,_⟩:=hcell r x j v hx hv;exact⟨c,k1,CR.ofSc k2⟩)
 split at hg
 ·simp only[ae] at hg;subst hg;exact⟨_,_,bt',hrun,g1,mh g3 g4 g5 (aw _),fun _=>g2⟩
 ·rename_i hfl;rcases bc len with h0|h0
  ·have hp0:parts.toList= [] :=be (by rw[hpl,h0]);rw[hp0] at hg;simp only[List.foldlM_nil,c9,ae] at hg;subst hg;rw[hp0] at g1;exact⟨_,_,bt',hrun,g1,mh g3 g4 g5 (aw _),fun h=>absurd h hfl⟩
  ·have hmap:parts.toList.foldlM (fun S' x=>eC S' ⟨S.ng,[]⟩ x.1 0 (ku P 9 el) (opd S x.2).cells) { S with gh:=eh S.gh S.ng (some (.sl (P.cellsOf el) (parts.toList.map fun x=>(opd S x.2).cells.map T.ofSc))),ng:=S.ng+1 } =
     (parts.toList.map fun x=>(x.1,(opd S x.2).cells)).foldlM (fun S' x=>eC S' ⟨S.ng,[]⟩ x.1 0 (ku P 9 el) x.2) { S with gh:=eh S.gh S.ng (some (.sl (P.cellsOf el) (parts.toList.map fun x=>(opd S x.2).cells.map T.ofSc))),ng:=S.ng+1 } :=by
    rw[List.foldlM_map]
   rw[hmap] at hg
   obtain⟨bt2,d1,d2,d3,d4,d5,d6,d7,d8,d9⟩:=xR (a:=a) ⟨S.ng,[]⟩ (P.cellsOf el) cs el (ku P 9 el) len (parts.toList.map fun x=>(x.1,(opd S x.2).cells)) bt' _ S2 (parts.toList.map fun x=>(opd S x.2).cells.map T.ofSc) g1.inv g1.er
    (by simp[St.look,eh,T.go]) (by simp[<-hpl]) (fun r row hr=>by
      simp only[an,ak] at hr;obtain⟨x,hx,rfl⟩:=hr;simpa using (hpart r x hx).2.1) (by rw[g5]; exact h0) (by rw[g1.fz]; exact hfz) (by rw[g4]; exact mz w _) (fun y hy=>by
      obtain⟨x,hx,rfl⟩:=aL.1 hy;obtain⟨r,hr,hxr⟩:=aM hx;have hx':parts.toList[r]? =some x:=by rw[<-hxr]; exact ah hr
      obtain⟨e1,e2,e3⟩:=hpart r x hx';refine⟨by simp only; omega,e2,fun k v hk=> ?_⟩;obtain⟨c,k1,k2,_⟩:=hcell r x k v hx' hk;refine⟨c,by simp only; rw[e1]; exact k1,Tk.of_VR (k2.mono g2 ?_)⟩;intro b hb;exact (ka w (.cells cs el)).block b (hI.alt b hb)) hg
   refine⟨_,_,bt2,hrun,⟨d1,d2,d3,trivial,by rw[d4]; exact cF _,fun p hp=> ?_,fun r hr hn=>g1.gone r hr (d9 r hr hn)⟩,mh (by rw[d8,g3]) (by rw[d6,g4]) (by rw[d7,g5]) (aw _),fun h=>absurd h hfl⟩;have:=d5 p (by show p.r≠S.ng; omega);have h2:=g1.keep p hp;exact⟨this.1.trans h2.1,this.2.trans h2.2⟩
theorem qH {A:Nat->Prop} (hA: ∀b,bt.A b->A b) (hw: ∀b,bt.A b->w'.heap[b]? =w.heap[b]?): ∀ (ss:List Nat) (vs:List AV) (r:List T),v6 ss vs=some r->r.length=vs.length/\ ∀ (j:Nat) (x:T),r[j]? =some x-> ∃v,vs[j]? =some v/\ ∀c,VR w bt v c->RO w' A x c:=by
 intro ss
 induction ss with
 |nil=>
  intro vs r h;cases vs with
  |nil=>simp only[v6,ae] at h; subst h; exact⟨rfl,fun j x hx=>by simp at hx⟩
  |cons v vs=>cases h
 |cons s ss ih=>
  intro vs r h;cases vs with
  |nil=>cases h
  |cons v vs=>
   simp only[v6,aj,ak] at h;obtain⟨x,h1,xs,h2,rfl⟩:=h;obtain⟨g1,g2⟩:=ih vs xs h2;refine⟨by simp[g1],fun j y hy=> ?_⟩;cases j with
   |zero=>
    simp only[aF,ae] at hy;subst hy;refine⟨v,rfl,fun c hc=> ?_⟩;cases v with
    |sc q=>simp only[JJ,ae] at h1; subst h1; cases hc with |sc h=>exact .sc h
    |ro s' rows=>simp only[JJ,ae] at h1; subst h1; cases hc with |ro h=>exact h.mono hA hw
    |em=>simp only[JJ,ae] at h1; subst h1; cases hc with |em a=>exact .em _ _ _
    | _=>cases h1
   |succ j=>simpa using g2 j y (by simpa using hy)
theorem BD (ss:List Nat): ∀ (vss:List (List AV)) (rows:List (List T)),o7 ss vss=some rows->rows.length=vss.length/\ ∀ (i:Nat) (r:List T),rows[i]? =some r-> ∃vs,vss[i]? =some vs/\v6 ss vs=some r:=by
 intro vss
 induction vss with
 |nil=>intro rows h; simp only[o7,ae] at h; subst h; exact⟨rfl,fun i r hr=>by simp at hr⟩
 |cons vs vss ih=>
  intro rows h;simp only[o7,aj,ak] at h;obtain⟨r,h1,rs,h2,rfl⟩:=h;obtain⟨g1,g2⟩:=ih rs h2;refine⟨by simp[g1],fun i q hq=> ?_⟩;cases i with
  |zero=>simp only[aF,ae] at hq; subst hq; exact⟨vs,rfl,h1⟩
  |succ i=>simpa using g2 i q (by simpa using hq)
theorem wd (hI:eK w0 W bt S w) (hE:ER w bt S a) {t el:TypeId} {len:Nat} {parts:Array (Nat×Operand)} (hel:o6 P t=some el) (h20:len*P.cellsOf el<=2 ^ 20)
  (hix:parts.toList.map (·.1)=List.range len) (hpos:0<P.cellsOf el) (hz: (se P el).isSome=true) (hall:parts.toList.all (fun x=>(opd S x.2).cells.length=P.cellsOf el&& !(opd S x.2).isDead)=true) {ss:List Nat} {rows:List (List T)}
  (hr:o7 ss (parts.toList.map fun x=>(opd S x.2).cells)=some rows):
  ∃u w' bt',(Instr.buildSlice t len (parts.map fun x=>(x.1,a.eval x.2))).run P w= .ok u w'/\fX w0 W bt S a bt' S w'/\VR w' bt' (.ro (P.cellsOf el) rows) u:=by
 obtain⟨cs,hrun,hcs,hcell,hone⟩:=mB (P:=P) (w:=w) (bt:=bt) hE hel h20 hix hpos hz hall;obtain⟨q1,q2⟩:=BD ss _ _ hr
 have hpl:parts.toList.length=len:=by have:=congrArg List.length hix;simpa using this
 have hlen:rows.length=len:=by rw[q1,aB,hpl]
 have hb:=ka w (.cells cs el);have hw: ∀b,bt.A b->({ w with heap:=w.heap.push (.cells cs el) }:World).heap[b]? =w.heap[b]? :=fun b h=>hb.block b (hI.alt b h)
 obtain⟨h1,hle⟩:=(hI.change (mA.of_below hb)).more (A:=fun b=>bt.A b\/b=w.heap.size) (fun b h=> .inl h) (fun b h=>by
  rcases h with h|h
  ·exact aW (hI.alt b h) hb.size
  ·subst h; simp) (fun b h=>by
  rcases h with h|h
  ·exact .inl h
  ·have:=hI.fresh (b:=b) (by omega);exact .inr ⟨this.1,this.2.1⟩)
 have hcut: ∀ (i:Nat) (r:List T),rows[i]? =some r-> ∃x,parts.toList[i]? =some x/\v6 ss (opd S x.2).cells=some r:=by intro i r hi;obtain⟨vs,k1,k2⟩:=q2 i r hi;rw[an] at k1;simp only[ak] at k1;obtain⟨x,k1,rfl⟩:=k1;exact⟨x,k1,k2⟩
 refine⟨_,_,_,hrun,⟨h1,⟨hE.1,fun t=>(hE.2 t).mono hle hw⟩,rfl,trivial,aw _,fun p hp=>⟨rfl,rfl⟩,fun r hr h=>h⟩, .ro ?_⟩
 have fG:=RO.sl (w:= { w with heap:=w.heap.push (.cells cs el) }) (A:=fun b=>bt.A b\/b=w.heap.size) (sz:=P.cellsOf el) (rows:=rows) (ad:=⟨w.heap.size,0,none⟩) (cap:=len) (fun i j=>(cs[i*P.cellsOf el+j]?).getD undef) (by rw[hlen]; exact aw _) rfl (.inr rfl)
  (fun i r hi=>by obtain⟨x,k1,k2⟩:=hcut i r hi;rw[(qH (w:=w) (w':=w) (bt:=bt) (A:=bt.A) (fun b h=>h) (fun b _=>rfl) _ _ _ k2).1];have:=au.1 hall x (aq k1);simp only[ao,decide_eq_true_eq] at this;exact this.1)
  (fun i r j x hi hj=>by obtain⟨y,k1,k2⟩:=hcut i r hi;obtain⟨v,k3,_⟩:=(qH (w:=w) (w':=w) (bt:=bt) (A:=bt.A) (fun b h=>h) (fun b _=>rfl) _ _ _ k2).2 j x hj;obtain⟨c,k4,_⟩:=hcell i y j v k1 k3;rw[Go.Proofs.YtadpelkpdaohnaaGreatDoor.En.add_lit,jx (mz w _),aV,k4];rfl)
  (fun i r j x hi hj=>by obtain⟨y,k1,k2⟩:=hcut i r hi;obtain⟨v,k3,k5⟩:=(qH (A:=fun b=>bt.A b\/b=w.heap.size) (fun b h=> .inl h) hw _ _ _ k2).2 j x hj;obtain⟨c,k4,k6,_⟩:=hcell i y j v k1 k3;rw[k4];exact k5 c k6)
 rw[hlen] at fG;exact fG
end
end
section
open Go Go.RowKit
section
variable {P:Program} {w0 w w':World} {W:Nat->Prop} {bt:Bt} {S:St} {a:Act}
def GV (bt:Bt) (src:Option eb) (i j:Nat) (y:T) (c:Value):Prop:=match src with
 |some q=>HR bt (q.sub i j) y c
 |none=> ∃v,y= .sc v/\c=v/\kt v=true
structure K9 (w:World) (bt:Bt) (S S':St) (sz:Nat) (more:List (List T)) (x:Value) (src:Option eb) (news:List Value):Prop where
 val: (more= [] /\ ∃a c,x= .slice a 0 c)\/(∃ad c,x= .slice (some ad) more.length c/\ ∀ (j:Nat) (u:Value),news[j]? =some u->w.cell? (ad.add j)=some u)
 one: ∀u∈news,u.oneCell'=true
 len:news.length=more.length*sz
 cells: ∀ (i:Nat) (r:List T),more[i]? =some r->r.length=sz/\ ∀ (j:Nat) (y:T),r[j]? =some y-> ∃c,news[i*sz+j]? =some c/\GV bt src i j y c
 gone:S'=(match src with |some q=> { S with gh:=eh S.gh q.r none } |none=>S)
 root: ∀q,src=some q->q.l= [] /\S.look q= .sl sz more/\S.fz<=q.r
theorem nV (hI:eK w0 W bt S w) {p:eb} {sz lo len:Nat} {rows:List (List T)} (hp:S.look p= .sl sz rows) (hk:0<bt.κ p) (hle:lo+len<=rows.length):
  ∃news:List Value,news.length=len*sz/\(∀u∈news,u.oneCell'=true)/\(∀ (j:Nat) (u:Value),news[j]? =some u->w.cell? ((⟨bt.β p,lo*sz,none⟩:Addr).add j)=some u)/\
   ∀ (i:Nat) (r:List T),((rows.drop lo).take len)[i]? =some r->r.length=sz/\ ∀ (j:Nat) (y:T),r[j]? =some y-> ∃c,news[i*sz+j]? =some c/\HR bt (p.sub (lo+i) j) y c:=by
 obtain⟨h1,h2⟩:=hI.tr _ _ _ hp;obtain⟨_,arr,e,g1,g2,g3,g4⟩:=h2 hk;have hm: (lo+len)*sz<=arr.size:=bE (bG _ (by omega)) g2;rw[bS] at hm
 have hget: ∀k,k<len*sz->((arr.toList.drop (lo*sz)).take (len*sz))[k]? =arr[lo*sz+k]? :=by intro k hk;rw[aZ,if_pos hk,aN];simp
 refine⟨(arr.toList.drop (lo*sz)).take (len*sz),by simp; omega,fun u hu=> ?_,fun j u hj=> ?_,fun i r hi=> ?_⟩
 ·have:=bX (ce hu);obtain⟨k,hk,hku⟩:=aM this;refine g3 k u ?_;rw[<-hku];simp at hk;simp[hk]
 ·rw[add_lit,jx g1]
  have hj':j<len*sz:=by have:=(ai.1 hj).1;simp at this;omega
  rwa [hget j hj'] at hj
 ·rw[aZ] at hi;split at hi
  ·rename_i hlt;rw[aN] at hi;obtain⟨k1,k2⟩:=g4 _ _ hi;refine⟨k1,fun j y hy=> ?_⟩;obtain⟨c,m1,m2⟩:=k2 j y hy;have hj:j<sz:=by rw[<-k1]; exact (ai.1 hy).1
   refine⟨c,?_,m2⟩
   rw[hget (i*sz+j) (by have : (i+1)*sz<=len*sz:=bG _ hlt;rw[bS] at this;omega)]
   rw[<-m1,bS]
   congr 1
   omega
  ·cases hi
theorem rp (hI:eK w0 W bt S w) {sz:Nat} (hsz:0<sz) {av:AV} {x:Value} {more:List (List T)} {S':St} {fl:Bool} (hv:VR w bt av x) (h:gA S sz fl av=some (more,S')): ∃src news,K9 w bt S S' sz more x src news:=by
 cases hv with
 |em ad=>simp only[gA,ae,al] at h;obtain⟨rfl,rfl⟩:=h;exact⟨none,[], .inl ⟨rfl,ad,0,rfl⟩,by simp,by simp,fun i r hi=>by simp at hi,rfl,fun q hq=>by cases hq⟩
 |ro hro=>
  rename_i s rows;simp only[gA] at h;split at h
  ·rename_i hc;simp only[ae,al] at h;obtain⟨rfl,rfl⟩:=h;obtain⟨rfl,hf⟩:=hc;cases hro with
   |em s ad cap=>exact⟨none,[], .inl ⟨rfl,ad,cap,rfl⟩,by simp,by simp,fun i r hi=>by simp at hi,rfl,fun q hq=>by cases hq⟩
   |sl cs hcap hs hA hl hr ht=>
    rename_i ad cap
    have dm: ∀ (r j:Nat),j<s->(r*s+j) / s=r/\(r*s+j) % s=j:=by
     intro r j hj;constructor
     ·rw[ct,Nat.add_mul_div_right _ _ hsz,Nat.div_eq_of_lt hj,aV]
     ·rw[ct,cA,dp hj]
    have at': ∀ (k:Nat) (u:Value),((List.range (rows.length*s)).map fun k=>cs (k / s) (k % s))[k]? =some u-> ∃r x,rows[k / s]? =some r/\r[k % s]? =some x/\u=cs (k / s) (k % s):=by
     intro k u hk;rw[an] at hk;by_cases hkl:k<rows.length*s
     ·have : (List.range (rows.length*s))[k]? =some k:=by simp[hkl]
      rw[this] at hk;simp only[az,ae] at hk;have hq:k / s<rows.length:=Nat.div_lt_of_lt_mul (by rw[Nat.mul_comm]; exact hkl);have hrow:rows[k / s]? =some rows[k / s] :=ah hq;have hrl:=hl _ _ hrow;have hm:k % s<rows[k / s].length:=by rw[hrl]; exact Nat.mod_lt _ hsz
      exact⟨_,_,hrow,ah hm,hk.symm⟩
     ·have : (List.range (rows.length*s))[k]? =none:=by simp; omega
      rw[this] at hk;cases hk
    refine⟨none,(List.range (rows.length*s)).map fun k=>cs (k / s) (k % s), .inr ⟨ad,cap,rfl,fun j u hj=> ?_⟩,fun u hu=> ?_,by simp,fun i r hi=>⟨hl i r hi,fun j y hy=> ?_⟩,rfl,fun q hq=>by cases hq⟩
    ·obtain⟨r,x,h1,h2,rfl⟩:=at' j u hj;have:=hr _ _ _ _ h1 h2
     rwa [Nat.mul_comm,Nat.div_add_mod] at this
    ·obtain⟨k,hk,hku⟩:=aM hu;obtain⟨r,x,h1,h2,rfl⟩:=at' k u (by rw[<-hku]; exact ah hk);exact (ht _ _ _ _ h1 h2).one
    ·have hj:j<s:=by rw[<-hl i r hi]; exact (ai.1 hy).1
     have hil:i<rows.length:=(ai.1 hi).1
     have hlt:i*s+j<rows.length*s:=by have : (i+1)*s<=rows.length*s:=bG _ hil;rw[bS] at this;omega
     refine⟨cs i j,?_,?_⟩
     ·rw[an];have : (List.range (rows.length*s))[i*s+j]? =some (i*s+j):=by simp[hlt]
      rw[this];simp only[az,(dm i j hj).1,(dm i j hj).2]
     ·have hfl:=au.1 (au.1 hf r (aq hi)) y (aq hy);have hro:=ht i r j y hi hy;generalize cs i j=c at hro ⊢;cases hro with
      |sc h=>exact⟨_,rfl,rfl,h⟩
      | _=>cases hfl
  ·cases h
 |own hp hcap hk ha=>
  rename_i p s lo len ad cap;simp only[gA] at h;split at h
  ·rename_i hs;subst hs;simp only[aj] at h;obtain⟨rows,hrows,h⟩:=h;have hlook:=gC hrows;split at h
   ·rename_i hc;obtain⟨_,hl,rfl,rfl,hfz⟩:=hc;simp only[ae,al] at h;obtain⟨rfl,rfl⟩:=h;rcases bc rows.length with h0|h0
    ·have :rows= [] :=be h0;subst this;exact⟨some p,[], .inl ⟨rfl,ad,cap,rfl⟩,by simp,by simp,fun i r hi=>by simp at hi,rfl,fun q hq=>by cases hq; exact⟨hl,hlook,hfz⟩⟩
    ·have had:=ha (by omega);subst had;obtain⟨news,g1,g2,g3,g4⟩:=nV hI (lo:=0) (len:=rows.length) hlook (by omega) (by omega);refine⟨some p,news, .inr ⟨_,cap,rfl,g3⟩,g2,g1,fun i r hi=> ?_,rfl,fun q hq=>by cases hq; exact⟨hl,hlook,hfz⟩⟩;obtain⟨k1,k2⟩:=g4 i r (by rw[bT,bH]; exact hi);refine⟨k1,fun j y hy=> ?_⟩;obtain⟨c,m1,m2⟩:=k2 j y hy;rw[aV] at m2;exact⟨c,m1,m2⟩
   ·split at h
    ·rename_i hc;obtain⟨hle,hf⟩:=hc;simp only[ae,al] at h;obtain⟨rfl,rfl⟩:=h;have hlen: ((rows.drop lo).take len).length=len:=by simp; omega
     rcases bc len with h0|h0
     ·subst h0;exact⟨none,[], .inl ⟨by simp,ad,cap,rfl⟩,by simp,by simp,fun i r hi=>by simp at hi,rfl,fun q hq=>by cases hq⟩
     ·have had:=ha (by omega);subst had;obtain⟨news,g1,g2,g3,g4⟩:=nV hI (lo:=lo) (len:=len) hlook (by omega) hle;refine⟨none,news, .inr ⟨_,cap,by rw[hlen],g3⟩,g2,by rw[hlen]; exact g1,fun i r hi=> ?_,rfl,fun q hq=>by cases hq⟩;obtain⟨k1,k2⟩:=g4 i r hi;refine⟨k1,fun j y hy=> ?_⟩;obtain⟨c,m1,m2⟩:=k2 j y hy;refine⟨c,m1,?_⟩;have hfl:=au.1 (au.1 hf r (aq hi)) y (aq hy);cases m2 with
      |sc h=>exact⟨_,rfl,rfl,h⟩
      | _=>cases hfl
    ·cases h
  ·cases h
 | _=>simp[gA] at h
theorem KL (hI:eK w0 W bt S w) {p:eb} {sz:Nat} {rows:List (List T)} (hp:S.look p= .sl sz rows) {S1:St} (h:S1=if p.l= [] then { S with gh:=eh S.gh p.r none } else S.setAt p .dd):
  eK w0 W bt S1 w/\(∀q s rs,S1.look q= .sl s rs-> ¬oU p q/\ ∃rs0,S.look q= .sl s rs0)/\S1.env=S.env/\S1.bx=S.bx/\S1.ng=S.ng/\S1.fz=S.fz/\S1.nt=S.nt/\ ∀r,r≠p.r->S1.gh r=S.gh r:=by
 split at h
 ·rename_i hl;subst h;refine⟨hI.drop p.r,fun q s rs hq=> ?_,rfl,rfl,rfl,rfl,rfl,fun r hr=>by simp[eh,hr]⟩
  have hne:q.r≠p.r:=by intro he;unfold St.look at hq;simp[eh,he] at hq
  exact⟨fun hu=>hne hu.1,rs,by rw[<-hq]; exact (pb hne).symm⟩
 ·subst h;obtain⟨h1,h2⟩:=hI.forget hp;refine⟨h1,fun q s rs hq=> ?_,rfl,rfl,rfl,rfl,rfl,fun r hr=>by simp[St.setAt,eh,hr]⟩;obtain⟨a1,rs0,a2,_⟩:=h2 q s rs hq
  exact⟨fun hu=>by obtain⟨hr,m,hm⟩:=hu;exact a1 m ⟨hr,hm.symm⟩,rs0,a2⟩
end
end
section
open Go Go.RowKit
section
variable {P:Program} {w0 w w':World} {W:Nat->Prop} {bt:Bt} {S:St} {a:Act}
theorem E3 (w:World) (t ty e e':TypeId) (i:TypeInfo) (ht:P.underlying t=some (.slice e)) (hi:P.info? e=some i)
  (g sLen sCap:Nat) (cur:Array Value) (hg:w.heap[g]? =some (.cells cur e' (0,0)))
  (a:Addr) (m c:Nat) (news:List Value) (hl:news.length=m*i.size) (hnews: ∀ (j:Nat) (u:Value),news[j]? =some u->w.cell? (a.add j)=some u) (h1: ∀u∈news,u.oneCell'=true)
  (hroom:sLen+m<=sCap) (hfit:sLen*i.size+news.length<=cur.size):
  (Builtin.append_ #[t,t] ty #[.slice (some ⟨g,0,none⟩) sLen sCap, .slice (some a) m c]).run P w=
    .ok (.slice (some ⟨g,0,none⟩) (sLen+m) sCap) (w.setRow g (cur.toList.take (sLen*i.size)++news++cur.toList.drop (sLen*i.size+news.length)).toArray):=by
 have hf:=run_firstCells_some (P:=P) w i.size m a m c news hl hnews;have hst:=run_storeCells_at P g (sLen*i.size) e' news 0 cur w hg (by simpa using hfit) h1;simp only[ca] at hst;simp[Builtin.append_,run_underlying ht,sizeOf,typeInfo,hi,Builtin.lenOf,hroom,hf,Addr.add_lit,hst]
theorem zC (w:World) (t ty e:TypeId) (i:TypeInfo) (ht:P.underlying t=some (.slice e)) (hi:P.info? e=some i) (ab xa:Option Addr) (sLen sCap xc:Nat) (hroom:sLen<=sCap):
  (Builtin.append_ #[t,t] ty #[.slice ab sLen sCap, .slice xa 0 xc]).run P w= .ok (.slice ab sLen sCap) w:=by
 cases xa<;>cases ab<;>simp[Builtin.append_,run_underlying ht,sizeOf,typeInfo,hi,Builtin.lenOf,hroom,Builtin.firstCells,loadCells,loadCellsFrom,storeCells]
theorem DH (w:World) (t ty e:TypeId) (i:TypeInfo) (z:Value) (ht:P.underlying t=some (.slice e)) (hi:P.info? e=some i) (hz:i.zero=some z) (ab:Option Addr)
  (a:Addr) (n c:Nat) (news:List Value) (hl:news.length=n*i.size) (hnews: ∀ (j:Nat) (v:Value),news[j]? =some v->w.cell? (a.add j)=some v)
  (h0:0<n) (h63: (n:Int)<=9223372036854775807) (h48:n*i.bytes<=281474976710656):
  (Builtin.append_ #[t,t] ty #[.slice ab 0 0, .slice (some a) n c]).run P w=
    .ok (.slice (some ⟨w.heap.size,0,none⟩) n (grownCap w n 0 e)) (w.drew.alloc (.cells (news.toArray++Builtin.zeroCells z.cells (grownCap w n 0 e-n)) e)):=by
 cases ab with
 |none=>exact run_append_nil w t ty e i z ht hi hz a n c news hl hnews h0 h63 h48
 |some b=>have:=run_append_grow (P:=P) w t ty e i z ht hi hz b 0 0 [] (by simp) (by simp) a n c news hl hnews (by omega) (by simpa using h63) (by rw[aV,nextslicecap_zero h0]; exact h48);simpa using this
structure ut (w w':World) (ab:Option Addr) (len cap m sz:Nat) (olds news:List Value) (v:Value) (b cap':Nat):Prop where
 os:w'.os=w.os
 tape:w'.tape=w.tape
 output:w'.output=w.output
 size:w.heap.size<=w'.heap.size
 block: ∀k,k<w.heap.size->w'.heap[k]? =w.heap[k]? \/(0<cap/\ab=some ⟨k,0,none⟩)
 val: ∃ad,v= .slice ad (len+m) cap'/\(0<cap'->ad=some ⟨b,0,none⟩)
 le:len+m<=cap'
 root:0<cap'->((b=w.heap.size\/(0<cap/\ab=some ⟨b,0,none⟩/\cap'=cap))/\ ∃cs e,w'.heap[b]? =some (.cells cs e (0,0))/\cap'*sz<=cs.size/\(∀ (k:Nat) (u:Value),cs[k]? =some u->u.oneCell'=true)/\
  (∀ (k:Nat) (u:Value),olds[k]? =some u->cs[k]? =some u)/\ ∀ (k:Nat) (u:Value),news[k]? =some u->cs[len*sz+k]? =some u)
theorem uu {w:World} {t ty e:TypeId} {i:TypeInfo} {z:Value} (ht:P.underlying t=some (.slice e)) (hi:P.info? e=some i) (hz:i.zero=some z) (hzs:z.cells.size=i.size) (hz1: ∀u∈z.cells.toList,u.oneCell'=true) (hpos:0<i.size)
  {ab:Option Addr} {len cap m:Nat} {olds news:List Value} {x:Value} (hle:len<=cap) (hol:olds.length=len*i.size) (hnl:news.length=m*i.size)
  (hcur:0<cap-> ∃g cur e',ab=some ⟨g,0,none⟩/\w.heap[g]? =some (.cells cur e' (0,0))/\cap*i.size<=cur.size/\(∀ (k:Nat) (u:Value),cur[k]? =some u->u.oneCell'=true)/\ ∀ (k:Nat) (u:Value),olds[k]? =some u->cur[k]? =some u)
  (hx: (m=0/\ ∃a c,x= .slice a 0 c)\/(∃ad c,x= .slice (some ad) m c/\ ∀ (j:Nat) (u:Value),news[j]? =some u->w.cell? (ad.add j)=some u)) (h1: ∀u∈news,u.oneCell'=true)
  (hn:len+m<=2 ^ 40) (hb: (len+m)*i.bytes<=2 ^ 40):
  ∃v w' b cap',(Builtin.append_ #[t,t] ty #[.slice ab len cap,x]).run P w= .ok v w'/\ut w w' ab len cap m i.size olds news v b cap':=by
 by_cases hm:m=0
 ·subst hm;have hnil:news= [] :=be (by simpa using hnl);subst hnil
  have : ∃a c,x= .slice a 0 c:=by
   rcases hx with ⟨_,h⟩| ⟨ad,c,h,_⟩
   ·exact h
   ·exact⟨_,_,h⟩
  obtain⟨xa,xc,rfl⟩:=this;rcases bc cap with h0|h0
  ·subst h0;exact⟨_,w,0,0,zC w t ty e i ht hi ab xa len 0 xc hle,rfl,rfl,rfl,aw _,fun _ _=> .inl rfl,⟨ab,by simp,fun h=>absurd h (by omega)⟩,by omega,fun h=>absurd h (by omega)⟩
  ·obtain⟨g,cur,e',rfl,g2,g3,g4,g5⟩:=hcur h0;exact⟨_,w,g,cap,zC w t ty e i ht hi _ xa len cap xc hle,rfl,rfl,rfl,aw _,fun _ _=> .inl rfl,⟨_,by simp,fun _=>rfl⟩,by omega,fun _=>⟨.inr ⟨h0,rfl,rfl⟩,cur,e',g2,g3,g4,g5,by simp⟩⟩
 ·obtain⟨ad,c,rfl,hnews⟩: ∃ad c,x= .slice (some ad) m c/\ ∀ (j:Nat) (u:Value),news[j]? =some u->w.cell? (ad.add j)=some u:=by
   rcases hx with ⟨h,_⟩|h
   ·exact absurd h hm
   ·exact h
  have hz1': ∀ (n k:Nat) (u:Value),(Builtin.zeroCells z.cells n)[k]? =some u->u.oneCell'=true:=by
   intro n k u hu;simp only[Builtin.zeroCells] at hu;rw[cK,cD] at hu;split at hu
   ·simp only[az,ae] at hu;have hlt:k % z.cells.size<z.cells.size:=Nat.mod_lt _ (by omega);rw[getElem!_pos z.cells _ hlt] at hu;subst hu;exact hz1 _ (by simp)
   ·cases hu
  have grown: ∀ (cp:Nat),len+m<=cp->(∀u∈olds,u.oneCell'=true)-> ∃v w' b cap',Result.ok (Value.slice (some ⟨w.heap.size,0,none⟩) (len+m) cp) (w.drew.alloc (.cells (olds.toArray++news.toArray++Builtin.zeroCells z.cells (cp-(len+m))) e))=Result.ok v w'/\
    ut w w' ab len cap m i.size olds news v b cap':=by
   intro cp hcp ho;refine⟨_,_,w.heap.size,cp,rfl,rfl,rfl,rfl,by simp,fun k hk=> .inl (heap_alloc_old w.drew _ k hk),⟨_,rfl,fun _=>rfl⟩,hcp,fun _=>⟨.inl rfl,_,e,heap_alloc_new w.drew _,?_,fun k u hk=> ?_,fun k u hk=> ?_,fun k u hk=> ?_⟩⟩
   ·simp only[Array.size_append,dk,size_zeroCells,hzs,hol,hnl,<-bS];rw[show len+m+(cp-(len+m))=cp by omega];exact aw _
   ·rw[Array.getElem?_append] at hk;split at hk
    ·have :u∈olds++news:=aq (i:=k) (by simpa using hk);rcases bz.1 this with h|h
     ·exact ho u h
     ·exact h1 u h
    ·exact hz1' _ _ _ hk
   ·have hlt:=(ai.1 hk).1;rw[bW (by simp; omega),bW (by simpa using hlt)];simpa using hk
   ·have hlt:=(ai.1 hk).1;rw[bW (by simp; omega),Array.getElem?_append_right (by simp; omega)];simp only[dk,hol];rw[show len*i.size+k-len*i.size=k by omega];simpa using hk
  have h63: ((len+m:Nat):Int)<=9223372036854775807:=by omega
  rcases bc cap with h0|h0
  ·subst h0;have hl0:len=0:=by omega
   subst hl0;have hon:olds= [] :=be (by simpa using hol);subst hon;rw[DH w t ty e i z ht hi hz ab ad m c news hnl hnews (by omega) (by simpa using h63) (by simp at hb; omega)];have:=grown (grownCap w m 0 e) (by simpa using grownCap_ge w m 0 e) (by simp);simpa using this
  ·obtain⟨g,cur,e',rfl,g2,g3,g4,g5⟩:=hcur h0
   have hoc: ∀ (j:Nat) (u:Value),olds[j]? =some u->w.cell? ((⟨g,0,none⟩:Addr).add j)=some u:=fun j u hj=>by rw[Go.Proofs.YtadpelkpdaohnaaGreatDoor.En.add_lit,jx g2,aV];exact g5 j u hj
   by_cases hroom:len+m<=cap
   ·have hmul: (len+m)*i.size<=cap*i.size:=bG _ hroom;rw[bS] at hmul;have hfit:len*i.size+news.length<=cur.size:=by omega
    refine⟨_,_,g,cap,E3 w t ty e e' i ht hi g len cap cur g2 ad m c news hnl hnews h1 hroom hfit,rfl,rfl,rfl,by simp,fun k hk=> ?_,⟨_,rfl,fun _=>rfl⟩,hroom,fun _=>⟨.inr ⟨h0,rfl,rfl⟩,_,e',setRow_heap w g cur _ e' _ g2,?_,fun k u hk=> ?_,fun k u hk=> ?_,fun k u hk=> ?_⟩⟩
    ·by_cases hk':k=g
     ·subst hk';exact .inr ⟨h0,rfl⟩
     ·exact .inl (setRow_other w g k _ hk')
    ·have : (cur.toList.take (len*i.size)++news++cur.toList.drop (len*i.size+news.length)).length=cur.size:=by simp only[bn,cr,ch,b7]; omega
     rw[dk,this];exact g3
    ·rw[cy,l4 _ _ _ (by simpa using hfit)] at hk;split at hk
     ·exact g4 k u (by simpa using hk)
     ·split at hk
      ·exact h1 u (aq hk)
      ·exact g4 k u (by simpa using hk)
    ·have hlt:=(ai.1 hk).1;rw[cy,l4 _ _ _ (by simpa using hfit),if_pos (by omega)];simpa using g5 k u hk
    ·have hlt:=(ai.1 hk).1;rw[cy,l4 _ _ _ (by simpa using hfit),if_neg (by omega),if_pos (by omega),show len*i.size+k-len*i.size=k by omega];exact hk
   ·have ho: ∀u∈olds,u.oneCell'=true:=fun u hu=>by
     obtain⟨k,hk,hku⟩:=aM hu;exact g4 k u (g5 k u (by rw[<-hku]; exact ah hk))
    rw[run_append_grow (P:=P) w t ty e i z ht hi hz ⟨g,0,none⟩ len cap olds hol hoc ad m c news hnl hnews (by omega) h63 (growslice_fits (by omega) (by omega))];exact grown _ (grownCap_ge w (len+m) cap e) ho
end
end
section
open Go Go.RowKit
section
variable {P:Program} {w0 w w':World} {W:Nat->Prop} {bt:Bt} {S:St} {a:Act}
def mC (bp src:Option eb) (len:Nat) (x:eb):Option eb:=match x.l with
 | [] =>none
 | (i,j)::l=>if i<len then bp.map fun p=>⟨p.r,p.l++(i,j)::l⟩ else src.map fun q=>⟨q.r,q.l++(i-len,j)::l⟩
theorem E4 {bp src:Option eb} {len:Nat} {x y:eb} (h:mC bp src len x=some y) (i j:Nat):mC bp src len (x.sub i j)=some (y.sub i j):=by
 obtain⟨r,l⟩:=x;cases l with
 |nil=>simp[mC] at h
 |cons z l=>
  obtain⟨i',j'⟩:=z;simp only[mC,eb.sub,b6] at h ⊢;split at h
  ·rename_i hlt;rw[if_pos hlt];simp only[ak] at h ⊢;obtain⟨p,hp,rfl⟩:=h;exact⟨p,hp,by simp[aU]⟩
  ·rename_i hlt;rw[if_neg hlt];simp only[ak] at h ⊢;obtain⟨p,hp,rfl⟩:=h;exact⟨p,hp,by simp[aU]⟩
def je (bt:Bt) (bp src:Option eb) (len b cap:Nat):Bt:= { bt with
 β:=fun x=>match x.l with | [] =>b| _::_=>match mC bp src len x with |some y=>bt.β y|none=>0
 κ:=fun x=>match x.l with | [] =>cap| _::_=>match mC bp src len x with |some y=>bt.κ y|none=>0 }
theorem fr {bp src:Option eb} {len b cap:Nat} {x y:eb} (h:mC bp src len x=some y): (je bt bp src len b cap).β x=bt.β y/\(je bt bp src len b cap).κ x=bt.κ y:=by
 obtain⟨r,l⟩:=x;cases l with
 |nil=>simp[mC] at h
 |cons z l=>simp only[je,h];exact⟨trivial,trivial⟩
structure KM (w:World) (bt:Bt) (S' S1:St) (sz:Nat) (rows:List (List T)) (bv:Value) (ab:Option Addr) (cap:Nat) (bp:Option eb) (olds:List Value):Prop where
 val:bv= .slice ab rows.length cap
 le:rows.length<=cap
 pos:0<cap-> ∃p,bp=some p/\ab=some ⟨bt.β p,0,none⟩/\cap<=bt.κ p
 len:olds.length=rows.length*sz
 cells: ∀ (i:Nat) (r:List T),rows[i]? =some r->r.length=sz/\ ∀ (j:Nat) (y:T),r[j]? =some y-> ∃c,olds[i*sz+j]? =some c/\GV bt bp i j y c
 cur:0<cap-> ∃g cur e',ab=some ⟨g,0,none⟩/\w.heap[g]? =some (.cells cur e' (0,0))/\cap*sz<=cur.size/\(∀ (k:Nat) (u:Value),cur[k]? =some u->u.oneCell'=true)/\ ∀ (k:Nat) (u:Value),olds[k]? =some u->cur[k]? =some u
 st:S1=(match bp with |some p=>if p.l= [] then { S' with gh:=eh S'.gh p.r none } else S'.setAt p .dd|none=>S')
 root: ∀p,bp=some p->S'.fz<=p.r/\ ∃rows0,S'.look p= .sl sz rows0/\rows=rows0.take rows.length
 no:bp=none->rows= []
theorem tc (hI:eK w0 W bt S w) (hE:ER w bt S a) (hfz:S.fz<=S.ng) {sz:Nat} {rows more:List (List T)} {bv x v:Value} {ab:Option Addr} {cap b cap':Nat} {bp src:Option eb} {olds news:List Value} {S' S1:St}
  (hs:K9 w bt S S' sz more x src news) (hb:KM w bt S' S1 sz rows bv ab cap bp olds) (hr:ut w w' ab rows.length cap more.length sz olds news v b cap'):
  ∃bt',fX w0 W bt S a bt' { S1 with gh:=eh S1.gh S.ng (some (.sl sz (rows++more))),ng:=S.ng+1 } w'/\bt.le bt'/\VR w' bt' (.own ⟨S.ng,[]⟩ sz 0 (rows.length+more.length)) v:=by
 have hI':eK w0 W bt S' w:=by
  rw[hs.gone];cases src with
  |none=>exact hI
  |some q=>exact hI.drop q.r
 have look': ∀q s rs,S'.look q= .sl s rs->S.look q= .sl s rs/\ ∀q0,src=some q0->q.r≠q0.r:=by
  intro q s rs h;rw[hs.gone] at h;cases src with
  |none=>exact⟨h,fun q0 h0=>by cases h0⟩
  |some q0=>
   simp only at h
   have hne:q.r≠q0.r:=by intro he;unfold St.look at h;simp[eh,he] at h
   exact⟨by rw[<-h]; exact (pb hne).symm,fun q1 h1=>by cases h1; exact hne⟩
 have eq':S'.env=S.env/\S'.bx=S.bx/\S'.ng=S.ng/\S'.fz=S.fz/\S'.nt=S.nt/\ ∀r,r<S.fz->S'.gh r=S.gh r:=by
  rw[hs.gone];cases src with
  |none=>exact⟨rfl,rfl,rfl,rfl,rfl,fun _ _=>rfl⟩
  |some q=>exact⟨rfl,rfl,rfl,rfl,rfl,fun r hr=>by have:=(hs.root q rfl).2.2;simp only[eh];rw[if_neg (by omega)]⟩
 have st1:eK w0 W bt S1 w/\(∀q s rs,S1.look q= .sl s rs->(∀p,bp=some p-> ¬oU p q)/\ ∃rs0,S'.look q= .sl s rs0)/\S1.env=S'.env/\S1.bx=S'.bx/\S1.ng=S'.ng/\S1.fz=S'.fz/\S1.nt=S'.nt/\ ∀r,r<S.fz->S1.gh r=S'.gh r:=by
  have hst:=hb.st;cases bp with
  |none=>simp only at hst;subst hst;exact⟨hI',fun q s rs h=>⟨fun p hp=>(nomatch hp),rs,h⟩,rfl,rfl,rfl,rfl,rfl,fun _ _=>rfl⟩
  |some p=>simp only at hst;obtain⟨hf,rows0,hp,_⟩:=hb.root p rfl;obtain⟨a1,a2,a3,a4,a5,a6,a7,a8⟩:=KL hI' hp hst;exact⟨a1,fun q s rs h=>⟨fun p' hp'=>by cases hp'; exact (a2 q s rs h).1,(a2 q s rs h).2⟩,a3,a4,a5,a6,a7,fun r hr=>a8 r (by rw[eq'.2.2.2.1] at hf; omega)⟩
 obtain⟨hI1,look1,q1,q2,q3,q4,q5,q6⟩:=st1;obtain⟨r1,r2,r3,r4,r5,r6⟩:=eq';have hE1:ER w bt S1 a:=⟨by rw[q5,r5]; exact hE.1,fun t=>by rw[q1,r1]; exact hE.2 t⟩
 have hng1:S1.ng=S.ng:=q3.trans r3;have hfz1:S1.fz=S.fz:=q4.trans r4;have hbx1:S1.bx=S.bx:=q2.trans r2
 have hbase:0<cap-> ∃p rows0,bp=some p/\ab=some ⟨bt.β p,0,none⟩/\0<bt.κ p/\S.look p= .sl sz rows0/\cap<=bt.κ p:=by intro h;obtain⟨p,hp,h1,h2⟩:=hb.pos h;obtain⟨_,rows0,h3,_⟩:=hb.root p hp;exact⟨p,rows0,hp,h1,by omega,(look' _ _ _ h3).1,h2⟩
 have hloose: ∀k,(0<cap/\ab=some ⟨k,0,none⟩)->E0 w0 W bt S1 k:=by
  rintro k ⟨hc,hk⟩
  obtain⟨p,rows0,hp,h1,h2,h3,_⟩:=hbase hc
  have :k=bt.β p:=by rw[h1] at hk;simp only[ae,Addr.mk.injEq] at hk;exact hk.1.symm
  subst this;refine⟨((hI.tr _ _ _ h3).2 h2).1,fun n cs hn=> ?_,fun q s rs hq hkq he=> ?_,hI.atr _ _ _ h3 h2⟩
  ·rw[hbx1] at hn;exact hI.bbtr _ _ _ _ _ hn h3 h2
  ·obtain⟨g1,rs0,g2⟩:=look1 q s rs hq;have:=hI.inj _ _ _ _ _ _ (look' _ _ _ g2).1 h3 hkq h2 he;subst this;exact g1 q hp ⟨rfl,List.prefix_refl _⟩
 have hch:mA w0 W bt S1 w w':=⟨hr.os,hr.tape,hr.output,hr.size,fun k hk=>by
  rcases hr.block k hk with h|h
  ·exact .inl h
  ·exact .inr (hloose k h)⟩
 have hch': ∀k,k<w.heap.size->w'.heap[k]? =w.heap[k]? \/(0<cap/\ab=some ⟨k,0,none⟩):=hr.block
 have nested: ∀x s rs,(jY [.sl sz (rows++more)]).look x= .sl s rs->x.r=0/\((x.l= [] /\s=sz/\rs=rows++more)\/
   ∃y,mC bp src rows.length x=some y/\x.l≠ [] /\S.look y= .sl s rs/\((∃p,bp=some p/\oU p y/\y≠p/\ ∀q,src=some q->y.r≠q.r)\/(∃q,src=some q/\oU q y/\ ∀p,bp=some p->y.r≠p.r))):=by
  intro x s rs h;obtain⟨h0,h1⟩:=pN h;refine⟨h0,?_⟩;rcases h1 with h1| ⟨i,j,l,r,y,hl,h2,h3,h4⟩
  ·exact .inl h1
  ·right;by_cases hi:i<rows.length
   ·rw[aJ hi] at h2;cases hbp:bp with
    |none=>rw[hb.no hbp] at hi; simp at hi
    |some p=>
     obtain⟨_,rows0,hp,ht⟩:=hb.root p hbp
     have h2':rows0[i]? =some r:=by rw[ht,aZ,if_pos hi] at h2;exact h2
     have hlk:S'.look ⟨p.r,p.l++(i,j)::l⟩= .sl s rs:=by
      unfold St.look at hp ⊢;split at hp
      ·rename_i t ht;rw[ht];simp only;rw[T.go_append,hp];simp only[T.go,T.cell,ar,h2',aK,h3];exact h4
      ·cases hp
     refine⟨_,by simp[mC,hl,hi],by rw[hl]; simp,(look' _ _ _ hlk).1, .inl ⟨p,rfl,⟨rfl,dA _ _⟩,fun he=> ?_,fun q hq=>(look' _ _ _ hlk).2 q hq⟩⟩;have:=congrArg (fun z:eb=>z.l.length) he;simp at this
   ·rw[aO (by omega)] at h2;cases hsrc:src with
    |none=>
     obtain⟨_,g⟩:=hs.cells _ r h2;obtain⟨c,_,g2⟩:=g j y h3;rw[hsrc] at g2;obtain⟨v,rfl,_⟩:=g2;cases l with
     |nil=>cases h4
     |cons z l=>rw[T.sc_go] at h4; cases h4
    |some q=>
     obtain⟨hql,hq,_⟩:=hs.root q hsrc
     have hlk:S.look ⟨q.r,q.l++(i-rows.length,j)::l⟩= .sl s rs:=by
      unfold St.look at hq ⊢;split at hq
      ·rename_i t ht;rw[ht];simp only;rw[T.go_append,hq];simp only[T.go,T.cell,ar,h2,aK,h3];exact h4
      ·cases hq
     refine⟨_,by simp[mC,hl,hi],by rw[hl]; simp,hlk, .inr ⟨q,rfl,⟨rfl,dA _ _⟩,fun p hp=> ?_⟩⟩;obtain⟨_,rows0,h5,_⟩:=hb.root p hp;exact fun he=>(look' _ _ _ h5).2 q hsrc he.symm
 have notroot: ∀y s rs x,S.look y= .sl s rs->0<bt.κ y->mC bp src rows.length x=some y->((∃p,bp=some p/\oU p y/\y≠p/\ ∀q,src=some q->y.r≠q.r)\/(∃q,src=some q/\oU q y/\ ∀p,bp=some p->y.r≠p.r))->
   ¬ (0<cap/\ab=some ⟨bt.β y,0,none⟩):=by
  rintro y s rs x hy hk hd hor ⟨hc,he⟩
  obtain⟨p,rows0,hp,h1,h2,h3,_⟩:=hbase hc;rw[h1] at he;simp only[ae,Addr.mk.injEq] at he;have:=hI.inj _ _ _ _ _ _ h3 hy h2 hk he.1;subst this;rcases hor with ⟨p',hp',_,hne,_⟩| ⟨q,hq,_,hne⟩
  ·rw[hp] at hp';cases hp';exact hne rfl
  ·exact hne _ hp rfl
 obtain⟨f1,f2,f3⟩:=hI.fresh (b:=w.heap.size) (aw _)
 have hrootb:0<cap'->(b=w.heap.size\/(0<cap/\ab=some ⟨b,0,none⟩)):=fun h=>by
  rcases (hr.root h).1 with h|h
  ·exact .inl h
  ·exact .inr ⟨h.1,h.2.1⟩
 have hvl:rows.length+more.length<=cap':=hr.le
 have:=xQ hI1 hE1 (by rw[hfz1,hng1]; exact hfz) hch (sz:=sz) (rows:=rows++more) (je bt bp src rows.length b cap')
  (fun x s rs h=>by
    obtain⟨h0,h1⟩:=nested x s rs h;rcases h1 with ⟨hl,rfl,rfl⟩| ⟨y,hd,hl,hy,hor⟩
    ·have e1: (je bt bp src rows.length b cap').κ x=cap':=by simp only[je,hl]
     have e2: (je bt bp src rows.length b cap').β x=b:=by simp only[je,hl]
     rw[e1,e2];refine⟨by simpa using hvl,fun hk=>⟨?_,?_⟩⟩
     ·rcases hrootb hk with rfl|h
      ·exact .inl hI.size
      ·exact (hloose _ h).ours
     ·obtain⟨_,cs,e,g1,g2,g3,g4,g5⟩:=hr.root hk;refine⟨cs,e,by rw[e2]; exact g1,by rw[e1]; exact g2,g3,fun i r hi=> ?_⟩;by_cases hil:i<rows.length
      ·rw[aJ hil] at hi;obtain⟨k1,k2⟩:=hb.cells i r hi;refine⟨k1,fun j y hj=> ?_⟩;obtain⟨c,k3,k4⟩:=k2 j y hj;refine⟨c,g4 _ _ k3,?_⟩;cases hbp:bp with
       |none=>rw[hb.no hbp] at hil; simp at hil
       |some p=>
        rw[hbp] at k4;have hd:mC bp src rows.length (x.sub i j)=some (p.sub i j):=by simp[mC,eb.sub,hl,hil,hbp]
        have:=fr (bt:=bt) (b:=b) (cap:=cap') hd;rw[hbp] at this;have k4':HR bt (p.sub i j) y c:=k4;cases k4' with
        |sc h=>exact .sc h
        |dd u=>exact .dd _
        |sl q1 q2 q3=>exact .sl q1 (by rw[this.2]; exact q2) (by rw[this.1]; exact q3)
      ·rw[aO (by omega)] at hi;obtain⟨k1,k2⟩:=hs.cells _ r hi;refine⟨k1,fun j y hj=> ?_⟩;obtain⟨c,k3,k4⟩:=k2 j y hj;refine⟨c,?_,?_⟩
       ·have:=g5 _ _ k3;rw[<-this]
        congr 1
        have :i*s=rows.length*s+(i-rows.length)*s:=by rw[<-bS]; congr 1; omega
        omega
       ·cases hsrc:src with
        |none=>rw[hsrc] at k4;obtain⟨v,rfl,rfl,hv⟩:=k4;exact .sc hv
        |some q=>
         rw[hsrc] at k4;have hd:mC bp src rows.length (x.sub i j)=some (q.sub (i-rows.length) j):=by simp[mC,eb.sub,hl,hil,hsrc]
         have:=fr (bt:=bt) (b:=b) (cap:=cap') hd;rw[hsrc] at this;have k4':HR bt (q.sub (i-rows.length) j) y c:=k4;cases k4' with
         |sc h=>exact .sc h
         |dd u=>exact .dd _
         |sl q1 q2 q3=>exact .sl q1 (by rw[this.2]; exact q2) (by rw[this.1]; exact q3)
    ·obtain⟨e2,e1⟩:=fr (bt:=bt) (b:=b) (cap:=cap') hd;rw[e1,e2];obtain⟨k1,k2⟩:=hI.tr _ _ _ hy;refine⟨k1,fun hk=>⟨(k2 hk).1,?_⟩⟩;obtain⟨_,cs,e,g1,g2,g3,g4⟩:=k2 hk;refine⟨cs,e,?_,by rw[e1]; exact g2,g3,fun i r hi=> ?_⟩
     ·rw[e2];rcases hch' _ (hI.βlt hy hk) with h|h
      ·rw[h]; exact g1
      ·exact absurd h (notroot _ _ _ _ hy hk hd hor)
     ·obtain⟨m1,m2⟩:=g4 i r hi;refine⟨m1,fun j z hj=> ?_⟩;obtain⟨c,m3,m4⟩:=m2 j z hj;have:=fr (bt:=bt) (b:=b) (cap:=cap') (E4 hd i j);refine⟨c,m3,?_⟩;cases m4 with
      |sc h=>exact .sc h
      |dd u=>exact .dd _
      |sl q1 q2 q3=>exact .sl q1 (by rw[this.2]; exact q2) (by rw[this.1]; exact q3))
  (fun x x' s rs s' rs' h h' hk hk' he=>by
    obtain⟨h0,h1⟩:=nested x s rs h;obtain⟨h0',h1'⟩:=nested x' s' rs' h';have root: ∀ (x:eb),x.l= [] ->(je bt bp src rows.length b cap').κ x=cap'/\(je bt bp src rows.length b cap').β x=b:=fun x hl=>⟨by simp only[je,hl],by simp only[je,hl]⟩
    have mixed: ∀ (x:eb) (y:eb) (s:Nat) (rs:List (List T)),0<cap'->mC bp src rows.length x=some y->S.look y= .sl s rs->0<bt.κ y->((∃p,bp=some p/\oU p y/\y≠p/\ ∀q,src=some q->y.r≠q.r)\/(∃q,src=some q/\oU q y/\ ∀p,bp=some p->y.r≠p.r))->b≠bt.β y:=by
     intro x y s rs hc hd hy hk hor he;rcases hrootb hc with hbb|hbb
     ·exact f2 _ _ _ hy hk (by rw[<-he,hbb])
     ·exact notroot _ _ _ _ hy hk hd hor (by rw[<-he]; exact hbb)
    rcases h1 with ⟨hl,_⟩| ⟨y,hd,hl,hy,hor⟩<;>rcases h1' with ⟨hl',_⟩| ⟨y',hd',hl',hy',hor'⟩
    ·obtain⟨xr,xl⟩:=x;obtain⟨xr',xl'⟩:=x';simp only at h0 h0' hl hl';rw[h0,h0',hl,hl']
    ·rw[(root x hl).1] at hk;rw[(fr hd').2] at hk';rw[(root x hl).2,(fr hd').1] at he;exact absurd he (mixed _ _ _ _ hk hd' hy' hk' hor')
    ·rw[(root x' hl').1] at hk';rw[(fr hd).2] at hk;rw[(root x' hl').2,(fr hd).1] at he;exact absurd he.symm (mixed _ _ _ _ hk' hd hy hk hor)
    ·rw[(fr hd).2] at hk;rw[(fr hd').2] at hk';rw[(fr hd).1,(fr hd').1] at he;have:=hI.inj _ _ _ _ _ _ hy hy' hk hk' he;subst this;obtain⟨xr,xl⟩:=x;obtain⟨xr',xl'⟩:=x';simp only at h0 h0' hl hl';subst h0 h0'
     congr 1
     cases xl with
     |nil=>exact absurd rfl hl
     |cons z xl=>
      cases xl' with
      |nil=>exact absurd rfl hl'
      |cons z' xl'=>
       obtain⟨i,j⟩:=z;obtain⟨i',j'⟩:=z';simp only[mC] at hd hd';by_cases hi:i<rows.length<;>by_cases hi':i'<rows.length
       ·rw[if_pos hi] at hd;rw[if_pos hi'] at hd';simp only[ak] at hd hd';obtain⟨p,hp,e1⟩:=hd;obtain⟨p',hp',e2⟩:=hd';rw[hp] at hp';cases hp';rw[<-e1] at e2;simp only[eb.mk.injEq,List.append_cancel_left_eq,true_and] at e2;exact e2.symm
       ·rw[if_pos hi] at hd;rw[if_neg hi'] at hd';simp only[ak] at hd hd';obtain⟨p,hp,e1⟩:=hd;obtain⟨q,hq,e2⟩:=hd';obtain⟨_,rows0,h5,_⟩:=hb.root p hp;have:=(look' _ _ _ h5).2 q hq;rw[<-e1] at e2;simp only[eb.mk.injEq] at e2;exact absurd e2.1.symm this
       ·rw[if_neg hi] at hd;rw[if_pos hi'] at hd';simp only[ak] at hd hd';obtain⟨q,hq,e1⟩:=hd;obtain⟨p,hp,e2⟩:=hd';obtain⟨_,rows0,h5,_⟩:=hb.root p hp;have:=(look' _ _ _ h5).2 q hq;rw[<-e1] at e2;simp only[eb.mk.injEq] at e2;exact absurd e2.1 this
       ·rw[if_neg hi] at hd;rw[if_neg hi'] at hd';simp only[ak] at hd hd';obtain⟨p,hp,e1⟩:=hd;obtain⟨p',hp',e2⟩:=hd';rw[hp] at hp';cases hp';rw[<-e1] at e2;simp only[eb.mk.injEq,List.append_cancel_left_eq,bo,al,true_and] at e2;obtain⟨⟨e3,e4⟩,e5⟩:=e2;rw[e4,e5,show i=i' by omega])
  (fun x s rs h hk=>by
    obtain⟨h0,h1⟩:=nested x s rs h;rcases h1 with ⟨hl,rfl,rfl⟩| ⟨y,hd,hl,hy,hor⟩
    ·have e1: (je bt bp src rows.length b cap').κ x=cap':=by simp only[je,hl]
     have e2: (je bt bp src rows.length b cap').β x=b:=by simp only[je,hl]
     rw[e1] at hk;rw[e2];rcases hrootb hk with hbb|hbb
     ·rw[hbb];refine⟨fun n cs hn=>f1 n cs (by rw[<-hbx1]; exact hn),fun q s rs hq hkq=> ?_,f3⟩;obtain⟨_,rs0,g2⟩:=look1 q s rs hq;exact f2 _ _ _ (look' _ _ _ g2).1 hkq
     ·have:=hloose _ hbb;exact⟨this.bx,this.tr,this.A⟩
    ·obtain⟨e2,e1⟩:=fr (bt:=bt) (b:=b) (cap:=cap') hd;rw[e1] at hk;rw[e2];refine⟨fun n cs hn=>hI.bbtr _ _ _ _ _ (by rw[<-hbx1]; exact hn) hy hk,fun q s rs hq hkq he=> ?_,hI.atr _ _ _ hy hk⟩;obtain⟨g1,rs0,g2⟩:=look1 q s rs hq;obtain⟨g3,g4⟩:=look' _ _ _ g2;have:=hI.inj _ _ _ _ _ _ g3 hy hkq hk he;subst this;rcases hor with ⟨p,hp,hu,_,_⟩| ⟨p,hp,hu,_⟩
     ·exact g1 p hp hu
     ·exact g4 p hp hu.1)
 obtain⟨bt',g1,g2,g3,g4,g5⟩:=this;rw[hng1] at g1 g3 g4 g5;refine⟨bt',⟨g1.inv,g1.er,g1.fz.trans hfz1,trivial,by show S.ng<=S.ng+1; omega,fun p hp=>g1.keep p (by rw[hfz1]; exact hp),fun r hr' hn=> ?_⟩,g2,?_⟩
 ·have:=g1.gone r (by rw[hfz1]; exact hr') hn;rw[q6 r hr',r6 r hr'] at this;exact this
 ·obtain⟨ad,rfl,had⟩:=hr.val;refine .own (by show S.ng<bt'.ng; omega) hvl (by rw[g5]; simp[je]) (fun hc=> ?_);rw[had hc,g4,cm];rfl
end
end
end Go.Proofs.YtadpelkpdaohnaaGreatDoor.En
