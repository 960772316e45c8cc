import Derived.Test.YtkghndikalnipaaGreatZX3
set_option linter.unusedSimpArgs false
set_option linter.unusedVariables false
namespace Go.Proofs.YtkghndikalnipaaGreat.En
section
open Go Go.RowKit
section
variable {P:Program} {S S' X Y Z:St} {D:iC}
theorem iG(env:Nat->AV)(n:Nat)(a:AV):dR { S with env:=env } n a=dR S n a:=by cases a<;>rfl
theorem uD(h: ∀x,opd X x=opd Z x)(o:Oper):dL P X o=dL P Z o:=by unfold dL;have :opd X=opd Z:=funext h;rw[this]
theorem zq(h: ∀x,opd X x=opd Z x)(d:Int)(x:Option Operand):gg X d x=gg Z d x:=by cases x<;>simp only[gg,h]
theorem wO(h: ∀x,opd X x=opd Z x){o:Oper}(hn:eA o=false)(hl: ∀t a,o.op= .load t a->dR X (P.cellsOf t) (opd Z a)=dR Z (P.cellsOf t) (opd Z a)):dD D P X o=dD D P Z o:=by
 have sc:=uD (P:=P) h o;have hf:opd X=opd Z:=funext h;obtain⟨dst,op,type,pos,after,guard⟩:=o;cases op with
 |load t x=>simp only[dD,load];rw[hf,hl t x rfl]
 |makeFunc fn first caps=>
  cases fn with
  |func f=>simp only[dD];rw[hf]
  | _=>simp only[dD];exact sc
 |unOp op t x=>cases op<;>simp only[dD,hf,sc]
 |binOp op t x y t'=>cases op<;>simp only[dD,hf,sc]
 |slice t x lo hi mx=>cases mx<;>simp only[dD,hf,zq h,sc]
 |call c=>
  obtain⟨cl,as,ts⟩:=c;cases cl with
  |builtin b=>cases b<;>first | (simp only[dD];rw[hf,sc];done)| (simp only[dD,sc];done)| (simp only[dD];exact sc)
  |value f=>simp[eA] at hn
  |invoke r m=>simp only[dD];exact sc
 | _=>first | (simp only[dD,hf,sc];done)| (simp only[dD];exact sc)
theorem lx{o:Oper}(hok:fY P o=true)(hn:eA o=false)(hop: ∀x∈o.op.operands,opd X x=opd Y x)(hl: ∀t a,o.op= .load t a->dR X (P.cellsOf t) (opd Y a)=dR Y (P.cellsOf t) (opd Y a)):dD D P X o=dD D P Y o:=by
 have e1:dD D P { Y with env:=X.env } o=dD D P Y o:=tw hok (λx hx=>by rw[<-hop x hx];cases x<;>rfl)
 rw[<-e1];refine wO (λx=>by cases x<;>rfl) hn (λt a hta=> ?_);have e2:opd { Y with env:=X.env } a=opd X a:=by cases a<;>rfl
 have e3:=hop a (by rw[hta];simp[Op.operands]);rw[e2,e3,hl t a hta];exact (iG X.env _ _).symm
theorem pm{g:Nat->Option T}{m n:Nat}{v:AV}(h:gf S { S with gh:=g,ng:=m } v):dR { S with gh:=g,ng:=m } n v=dR S n v:=by
 cases v with
 |ptrT p sz i j=>have:=fK (p:=p) (sz:=sz) (h p.r (by simp[gy]));simp only[dR];rw[this]
 | _=>rfl
theorem jT{env:Nat->AV}{p:dM}{sz i j:Nat}{vs:List T}:fU { S with env:=env } p sz i j vs=(fU S p sz i j vs).map λS1=> { S1 with env:=env } :=by
 unfold fU;have : ({ S with env:=env }:St).rows p sz=S.rows p sz:=rfl;rw[this];split
 ·split
  ·simp only[aF];rfl
  ·rfl
 ·rfl
theorem lR{p:dM}{sz i j:Nat}{vs:List T}(h:fU S p sz i j vs=some S'):S'.env=S.env/\S'.bx=S.bx/\S'.nt=S.nt/\ ∀r,r≠p.r->S'.gh r=S.gh r:=by
 unfold fU at h;split at h
 ·split at h
  ·simp only[af] at h;subst h;unfold St.setAt;refine⟨rfl,rfl,rfl,λr hr=> ?_⟩;simp[dQ,hr]
  ·cases h
 ·cases h
theorem rf{t:TypeId}{a v:AV}(hs:lS (iH P) t a=true)(h:store P S t a v=some S'):
  S'.env=S.env/\S'.nt=S.nt/\(∀env,store P { S with env:=env } t a v=some { S' with env:=env })/\ ∀b n,lZ b a=true->dR S' n b=dR S n b:=by
 unfold store at h;simp only at h;split at h
 ·cases h
 ·rename_i hc;split at h
  ·rename_i b j;simp only[ah] at h;obtain⟨cs,h1,h⟩:=h;split at h
   ·rename_i hle;simp only[af] at h;subst h;refine⟨rfl,rfl,λenv=> ?_,λc n hap=> ?_⟩
    ·unfold store;simp only[hc,if_false,h1,ao,hle,if_true]
    ·cases c with
     |ptrB b' j'=>
      have :b'≠b:=by simpa [lZ] using hap
      simp only[dR,dQ,if_neg this]
     |ptrT p sz i j=>rfl
     |pro cs=>rfl
     | _=>simp[lZ] at hap
   ·cases h
  ·rename_i p sz i j;simp only[ah] at h;obtain⟨S1,h1,h⟩:=h;have hfl: (gk P 9 t).all (· ==0)=true:=hs;rw[if_pos hfl] at h;simp only[af] at h;subst h;obtain⟨e1,e2,e3,e4⟩:=lR h1;refine⟨e1,e3,λenv=> ?_,λc n hap=> ?_⟩
   ·unfold store;simp only[hc,if_false,jT,h1,aF,ao,hfl,if_true]
   ·cases c with
    |ptrB b' j'=>simp only[dR,e2]
    |pro cs=>rfl
    |ptrT q sz' i' j'=>
     have :q.r≠p.r:=by simpa [lZ] using hap
     have hrows:S1.rows q sz'=S.rows q sz':=by unfold St.rows St.look;rw[e4 q.r this]
     simp only[dR,hrows]
    | _=>simp[lZ] at hap
  ·cases h
theorem ye{l:List (Nat×Nat)}(h:l≠ []):mu l [] =false:=by
 cases l with
 |nil=>exact absurd rfl h
 |cons x l=>rfl
theorem kR{p:dM}(hp:p.l≠ []){v:AV}(h:vF v=true):gV p v=v:=by
 cases v with
 |own q sz lo len=>have :q.l= [] :=dh.1 h;simp only[gV,under,this,ye hp,Bool.and_false,aQ,if_false]
 |ptrT q sz i j=>have :q.l= [] :=dh.1 h;simp only[gV,under,this,ye hp,Bool.and_false,aQ,if_false]
 |agg cs=>cases h
 |tup vs=>cases h
 |fn f cs=>cases h
 | _=>rfl
theorem ou{f:AV->AV}{g:AV->Bool}(hf: ∀v,g v=true->f v=v){cs:List AV}(h:cs.all g=true):cs.map f=cs:=by
 induction cs with
 |nil=>rfl
 |cons c cs ih=>simp only[b8,ak] at h;rw[aO,hf c h.1,ih h.2]
theorem oo{p:dM}(hp:p.l≠ []){v:AV}(h:yr v=true):iY p v=v:=by
 cases v with
 |agg cs=>simp only[iY];rw[ou (λv hv=>kR hp hv) h]
 |fn f cs=>simp only[iY];rw[ou (λv hv=>kR hp hv) h]
 |tup vs=>cases h
 | _=>simp only[iY];exact kR hp h
theorem pT{p:dM}(hp:p.l≠ []){v:AV}(h:oI v=true):kill p v=v:=by
 cases v with
 |tup vs=>simp only[kill];rw[ou (λv hv=>oo hp hv) h]
 | _=>simp only[kill];exact oo hp h
theorem yJ(p:dM)(i j:Nat): (p.sub i j).l≠ [] :=by simp[dM.sub]
def lD(F:St->Option St)(S S':St):Prop:=∃K:AV->AV,(∀v,oI v=true->K v=v)/\S'.env=(λt=>K (S.env t))/\S'.nt=S.nt/\ ∀env,F { S with env:=env } =some { S' with env:=λt=>K (env t) }
theorem pv{p:dM}{i j sz:Nat}{v:AV}(h:gU S p i j sz v=some S'):lD (λX=>gU X p i j sz v) S S':=by
 have keep:gU S p i j sz v=some S->(∀env,gU { S with env:=env } p i j sz v=some { S with env:=env })->lD (λX=>gU X p i j sz v) S S':=by intro h1 h2;rw[h1] at h;simp only[af] at h;subst h;exact⟨id,λ_ _=>rfl,rfl,rfl,h2⟩
 cases v with
 |own q s lo len=>
  unfold gU at h;simp only at h;split at h
  ·rename_i hc;simp only[ah] at h;obtain⟨rows,h1,h⟩:=h;split at h
   ·rename_i hle;simp only[af] at h;subst h;refine⟨kill (p.sub i j),λv hv=>pT (yJ p i j) hv,rfl,rfl,λenv=> ?_⟩;have h1': ({ S with env:=env }:St).rows q s=some rows:=h1;have hc':q.l= [] /\s=sz/\lo=0/\({ S with env:=env }:St).fz<=q.r/\q.r≠p.r:=hc;show (if q.l= [] /\s=sz/\lo=0/\({ S with env:=env }:St).fz<=q.r/\q.r≠p.r then (({ S with env:=env }:St).rows q s).bind λrows=>_ else _)=_;rw[if_pos hc',h1',ao,if_pos hle];rfl
   ·cases h
  ·cases h
 |em=>simp only[gU,af] at h;subst h;exact⟨kill (p.sub i j),λv hv=>pT (yJ p i j) hv,rfl,rfl,λenv=>rfl⟩
 | _=>exact keep rfl λ_=>rfl
theorem mg{p:dM}{i:Nat}: ∀ (j:Nat) (ss:List Nat) (vs:List AV) (S S':St),dV S p i j ss vs=some S'->lD (λX=>dV X p i j ss vs) S S':=by
 intro j ss
 induction ss generalizing j with
 |nil=>intro vs S S' h;simp only[dV,af] at h;subst h;exact⟨id,λ_ _=>rfl,rfl,rfl,λ_=>rfl⟩
 |cons sz ss ih=>
  intro vs S S' h;cases vs with
  |nil=>simp only[dV,af] at h;subst h;exact⟨id,λ_ _=>rfl,rfl,rfl,λ_=>rfl⟩
  |cons v vs=>
   simp only[dV,ah] at h;obtain⟨S1,h1,h2⟩:=h
   have g1:lD (λX=>if sz=0 then some X else gU X p i j sz v) S S1:=by
    by_cases hz:sz=0
    ·simp only[if_pos hz,af] at h1;subst h1;exact⟨id,λ_ _=>rfl,rfl,rfl,λ_=>by simp only[if_pos hz];rfl⟩
    ·simp only[if_neg hz] at h1;obtain⟨K,a,b,c,d⟩:=pv h1;exact⟨K,a,b,c,λenv=>by simp only[if_neg hz];exact d env⟩
   obtain⟨K,a1,a2,a3,a4⟩:=g1;obtain⟨K',b1,b2,b3,b4⟩:=ih _ _ _ _ h2;refine⟨λv=>K' (K v),λv hv=>by show K' (K v)=v;rw[a1 v hv,b1 v hv],by rw[b2];funext t;rw[a2],b3.trans a3,λenv=> ?_⟩;have a4': (if sz=0 then some { S with env:=env } else gU { S with env:=env } p i j sz v)=some { S1 with env:=λt=>K (env t) } :=a4 env;simp only[dV];rw[a4'];exact b4 (λt=>K (env t))
theorem pE{t:TypeId}{a v:AV}(h:store P S t a v=some S'):lD (λX=>store P X t a v) S S':=by
 unfold store at h;simp only at h;split at h
 ·cases h
 ·rename_i hc;split at h
  ·rename_i b j;simp only[ah] at h;obtain⟨cs,h1,h⟩:=h;split at h
   ·rename_i hle;simp only[af] at h;subst h;refine⟨id,λ_ _=>rfl,rfl,rfl,λenv=> ?_⟩;unfold store;simp only[hc,if_false,h1,ao,hle,if_true];rfl
   ·cases h
  ·rename_i p sz i j;simp only[ah] at h;obtain⟨S1,h1,h⟩:=h;obtain⟨e1,e2,e3,e4⟩:=lR h1;by_cases hfl: (gk P 9 t).all (· ==0)=true
   ·rw[if_pos hfl] at h;simp only[af] at h;subst h;refine⟨id,λ_ _=>rfl,e1,e3,λenv=> ?_⟩;unfold store;simp only[hc,if_false,jT,h1,aF,ao,hfl,if_true];rfl
   ·rw[if_neg hfl] at h;split at h
    ·rename_i hfz;obtain⟨K,b1,b2,b3,b4⟩:=mg _ _ _ _ _ h;refine⟨K,b1,by rw[b2,e1],b3.trans e3,λenv=> ?_⟩;unfold store;simp only[hc,if_false,jT,h1,aF,ao,hfl,hfz,if_true];exact b4 env
    ·cases h
  ·cases h
end
end
section
open Go Go.RowKit
section
variable {P:Program} {w0 w w':World} {W:Nat->Prop} {btI bt bt':Bt} {SI S S' S0:St} {a:Act} {D:iC}
theorem VR.rebox{bt2:Bt}(hβ:bt2.β=bt.β)(hκ:bt2.κ=bt.κ)(hA:bt2.A=bt.A)(hng:bt2.ng=bt.ng){p:Nat->Bool}(hp: ∀n,p n=true->n<bt2.nb/\bt2.bb n=bt.bb n){v:AV}{u:Value}(h:VR w bt v u):fj p v=true->VR w bt2 v u:=by
 induction h with
 |sc h=>intro _;exact .sc h
 |em a=>intro _;exact .em a
 |ro h=>intro _;exact .ro (by rw[hA];exact h)
 |own hp hc hk ha=>intro _;exact .own (by rw[hng];exact hp) hc (by rw[hκ];exact hk) (by rw[hβ];exact ha)
 |pro cs hs hb hr ht=>intro _;exact .pro cs hs (by rw[hA];exact hb) hr (λj x hx=>by rw[hA];exact ht j x hx)
 |ptrB j hn=>intro hb;obtain⟨h1,h2⟩:=hp _ hb;rw[<-h2];exact .ptrB j h1
 |ptrT sz i j hp hk=>intro _;rw[<-hβ];exact .ptrT sz i j (by rw[hng];exact hp) (by rw[hκ];exact hk)
 |fn f hl h ih=>intro hb;exact .fn f hl (λk c u h1 h2=>ih k c u h1 h2 (fu hb (aA h1)))
 |agg hl ho h ih=>intro hb;exact .agg hl ho (λk c u h1 h2=>ih k c u h1 h2 (fu hb (aA h1)))
 |tup hl h ih=>intro hb;exact .tup hl (λk c u h1 h2=>ih k c u h1 h2 (fu hb (aA h1)))
 |dead u=>intro _;exact .dead u
theorem VR.boxlt{v:AV}{u:Value}(h:VR w bt v u):fj (λn=>Nat.blt n bt.nb) v=true:=by
 have lst: ∀ {cs:List AV} {us:List Value},us.length=cs.length->(∀ (k:Nat) (c:AV) (u:Value),cs[k]? =some c->us[k]? =some u->fj (λn=>Nat.blt n bt.nb) c=true)->ju (λn=>Nat.blt n bt.nb) cs=true:=by intro cs us hl h;refine nT λc hc=> ?_;obtain⟨k,hk,he⟩:=aU hc;exact h k c _ (by grind) (aq (by omega))
 induction h with
 |ptrB j hn=>exact cO hn
 |fn f hl h ih=>exact lst hl ih
 |agg hl ho h ih=>exact lst hl ih
 |tup hl h ih=>exact lst hl ih
 | _=>rfl
mutual
theorem l5{p q:Nat->Bool}(h: ∀n,p n=true->q n=true): ∀ (v:AV),fj p v=true->fj q v=true
 | .ptrB n _,hv=>h n hv
 | .fn _ cs,hv=>jb h cs hv
 | .agg cs,hv=>jb h cs hv
 | .tup cs,hv=>jb h cs hv
 | .sc _,_=>rfl
 | .em,_=>rfl
 | .ro _ _,_=>rfl
 | .own _ _ _ _,_=>rfl
 | .pro _,_=>rfl
 | .ptrT _ _ _ _,_=>rfl
 | .dead,_=>rfl
theorem jb{p q:Nat->Bool}(h: ∀n,p n=true->q n=true): ∀ (vs:List AV),ju p vs=true->ju q vs=true
 | [],_=>rfl
 |v::vs,hv=>by unfold ju at hv ⊢;simp only[ak] at hv ⊢;exact⟨l5 h v hv.1,jb h vs hv.2⟩
end
theorem nS(p:Nat->Bool)(v:Value):fj p (nD v)=true:=by
 unfold nD
 repeat' split
 all_goals rfl
theorem xf(p:Nat->Bool)(v:Value):fj p (pb v)=true:=by
 unfold pb;split
 ·split
  all_goals simp_all [fj,nT,nS]
 ·exact nS p _
theorem pU(v:Value):nD v= .sc v\/nD v= .em\/nD v= .dead:=by
 unfold nD
 grind
theorem yA(v:Value):gy (pb v)= [] :=by
 unfold pb;split
 ·split
  ·simp only[gy];refine List.flatMap_eq_nil_iff.2 λc hc=> ?_;obtain⟨x,_,rfl⟩:=aG.1 hc;rcases pU x with h|h|h<;>rw[h]
  ·rfl
 ·rcases pU v with h|h|h<;>rw[h]<;>rfl
def lP(N m:Nat):Nat->Bool:=λn=>Nat.blt n N&& !Nat.beq n m
theorem Ag{N m n:Nat}(h:lP N m n=true):n<N/\n≠m:=by unfold lP at h;simp only[ak,bE] at h;refine⟨ax h.1,λe=> ?_⟩;rw[e,cJ] at h;cases h.2
theorem qO{N m n:Nat}(h:n<N)(hm:n≠m):lP N m n=true:=by
 unfold lP;have h1:Nat.blt n N=true:=cO h
 have h2:Nat.beq n m=false:=by
  cases hx:Nat.beq n m with
  |false=>rfl
  |true=>exact absurd (an hx) hm
 rw[h1,h2];rfl
theorem eh.addBoxAt[dE](hI:eh w0 W bt S w){b m:Nat}{cells:List AV}{cs:Array Value}{e:TypeId}(hb:w0.heap.size<=b)(hh:w.heap[b]? =some (.cells cs e (0,0)))(hl:cs.size=cells.length)
  (hc: ∀ (j:Nat) (v:AV),cells[j]? =some v-> ∃c,cs[j]? =some c/\VR w bt v c/\c.oneCell'=true) (hcm: ∀c∈cells,fj (lP S.nb m) c=true) (hm:m<S.nb) (hfree:S.bx m=none)
  (hbx: ∀n cs,S.bx n=some cs-> ∀c∈cs,fj (lP S.nb m) c=true)
  (hnb: ∀n cs,S.bx n=some cs->bt.bb n≠b) (hnt: ∀p sz rows,S.look p= .sl sz rows->0<bt.κ p->(bt.β p).1≠b) (hnA: ¬bt.A b):
  (∀ (v:AV) (u:Value),VR w bt v u->fj (lP S.nb m) v=true->VR w { bt with bb:=dQ bt.bb m b } v u)/\eh w0 W { bt with bb:=dQ bt.bb m b } { S with bx:=dQ S.bx m (some cells) } w:=by
 have re: ∀ (v:AV) (u:Value),VR w bt v u->fj (lP S.nb m) v=true->VR w { bt with bb:=dQ bt.bb m b } v u:=λv u h hv=>h.rebox (bt:=bt) (bt2:={ bt with bb:=dQ bt.bb m b }) rfl rfl rfl rfl (λn hn=>by obtain⟨h1,h2⟩:=Ag hn;exact⟨by show n<bt.nb;rw[hI.nb];exact h1,by grind [dQ]⟩) hv
 refine⟨re,?_⟩
 have old: ∀n c,dQ S.bx m (some cells) n=some c->(n=m/\c=cells)\/(n<S.nb/\S.bx n=some c/\dQ bt.bb m b n=bt.bb n):=by
  intro n c h;unfold dQ at h;split at h
  ·grind
  ·rename_i he;have:=(hI.bx n c h).1;exact .inr ⟨this,h,by simp[dQ,he]⟩
 have hnew:dQ bt.bb m b m=b:=by simp[dQ]
 have hle:bt.le { bt with bb:=bt.bb } :=Bt.le.refl _
 exact { good:=hI.good,os:=hI.os,tape:=hI.tape,output:=hI.output,size:=hI.size,keep:=hI.keep,nb:=hI.nb,ng:=hI.ng
         bx:=λn c h=>by
          rcases old n c h with ⟨rfl,rfl⟩| ⟨h1,h2,h3⟩
          ·refine⟨hm,by grind,cs,e,by grind,hl,λj v hj=> ?_⟩
           grind
          ·obtain⟨g1,g2,cs',e',g3,g4,g5⟩:=hI.bx n c h2;refine⟨h1,?_,cs',e',?_,g4,λj v hj=> ?_⟩
           ·grind
           ·grind
           ·obtain⟨c',k1,k2,k3⟩:=g5 j v hj;exact⟨c',k1,re _ _ k2 (hbx _ _ h2 _ (aA hj)),k3⟩
         gh:=hI.gh
         tr:=λp sz rows h=>by obtain⟨h1,h2⟩:=hI.tr p sz rows h;refine⟨h1,λhk=> ?_⟩;obtain⟨h3,cs',e',k1,k2,k3,k4⟩:=h2 hk;refine⟨h3,cs',e',k1,k2,k3,λi r hr=> ?_⟩;obtain⟨q1,q2⟩:=k4 i r hr;refine⟨q1,λj x hx=> ?_⟩;obtain⟨c,q3,q4⟩:=q2 j x hx;exact⟨c,q3,q4.mono rfl rfl⟩
         inj:=hI.inj
         bbinj:=λn k c c' h h' he=>by
          have he':dQ bt.bb m b n=dQ bt.bb m b k:=he;rcases old n c h with ⟨rfl,rfl⟩| ⟨h1,h2,h3⟩<;>rcases old k c' h' with ⟨rfl,rfl⟩| ⟨k1,k2,k3⟩
          ·rfl
          ·grind
          ·grind
          ·rw[h3,k3] at he';exact hI.bbinj _ _ _ _ h2 k2 he'
         bbtr:=λn c p sz rows h h' hk=>by
          show dQ bt.bb m b n≠(bt.β p).1;rcases old n c h with ⟨rfl,rfl⟩| ⟨h1,h2,h3⟩
          ·rw[hnew];exactλhe=>hnt p sz rows h' hk he.symm
          ·rw[h3];exact hI.bbtr _ _ _ _ _ h2 h' hk
         alt:=hI.alt,atr:=hI.atr
         abb:=λn c h=>by
          show ¬bt.A (dQ bt.bb m b n);rcases old n c h with ⟨rfl,rfl⟩| ⟨h1,h2,h3⟩
          ·rw[hnew];exact hnA
          ·rw[h3];exact hI.abb _ _ h2 }
theorem ph[dE](hI:eh w0 W bt S w)(hE:ER w bt S a){t:TypeId}{zs:List Value}(h:lV P t=some zs){m:Nat}(hm:m<S.nb)(hfree:S.bx m=none)
  (henv: ∀t,fj (lP S.nb m) (S.env t)=true) (hbx: ∀n cs,S.bx n=some cs-> ∀c∈cs,fj (lP S.nb m) c=true):
  ∃u w' bt',(Instr.alloc t true (.tuple #[])).run P w= .ok u w'/\eh w0 W bt' { S with bx:=dQ S.bx m (some (zs.map nD)) } w'/\ER w' bt' S a/\VR w' bt' (.ptrB m 0) u/\bt'.β=bt.β/\bt'.κ=bt.κ:=by
 obtain⟨i,z,hi,hz,rfl,hall⟩:=fS h;have hb:=fW w (.cells z.cells t);have hA: ∀b,bt.A b->({ w with heap:=w.heap.push (.cells z.cells t) }:World).heap[b]? =w.heap[b]? :=λb h=>hb.block b (hI.alt b h);obtain⟨f1,f2,f3⟩:=hI.fresh (b:=w.heap.size) (az _)
 obtain⟨re,hI'⟩:=(hI.grow hb).addBoxAt (b:=w.heap.size) (m:=m) (cells:=z.cells.toList.map nD) (cs:=z.cells) (e:=t) hI.size (iy w _) (by simp) (λj v hj=>by simp_all [pV]) (λc hc=>by obtain⟨x,_,rfl⟩:=aG.1 hc;exact nS _ _) hm hfree hbx f1 f2 f3
 refine⟨_,_,_,by simp[Instr.alloc,zeroValue,typeInfo,hi,hz,newVar,newRow];rfl,hI',⟨hE.1,λt=>re _ _ ((hE.2 t).mono (Bt.le.refl _) hA) (henv t)⟩,?_,rfl,rfl⟩;have :dQ bt.bb m w.heap.size m=w.heap.size:=by simp[dQ]
 have h:=VR.ptrB (w:={ w with heap:=w.heap.push (.cells z.cells t) }) (bt:={ bt with bb:=dQ bt.bb m w.heap.size }) (n:=m) 0 (by show m<bt.nb;rw[hI.nb];exact hm);simp only[this] at h;exact h
theorem Lv.widenB[dE](h:Lv w0 W btI SI bt S a w){N:Nat}(hN:S.nb<=N):Lv w0 W btI SI { bt with nb:=N } { S with nb:=N } a w:=by
 have hle:bt.le { bt with nb:=N } :=⟨by show bt.nb<=N;rw[h.inv.nb];exact hN,az _,λ_ h=>h,λ_ _=>rfl,λ_ _=>rfl,λ_ _=>rfl⟩
 exact⟨{ good:=h.inv.good,os:=h.inv.os,tape:=h.inv.tape,output:=h.inv.output,size:=h.inv.size,keep:=h.inv.keep,nb:=rfl,ng:=h.inv.ng
         bx:=λn cells hn=>by obtain⟨h1,h2,h3⟩:=h.inv.bx n cells hn;exact⟨aM h1 hN,h2,h3.mono hle (by rw[h.inv.nb];exact h1) (λ_ _=>rfl) rfl⟩
         gh:=h.inv.gh
         tr:=λp s rs hp=>by obtain⟨h1,h2⟩:=h.inv.tr p s rs hp;exact⟨h1,λhk=>⟨(h2 hk).1,(h2 hk).2.mono hle (h.inv.look_lt (S:=S) hp) rfl⟩⟩
         inj:=h.inv.inj
         bbinj:=h.inv.bbinj
         bbtr:=h.inv.bbtr
         alt:=h.inv.alt
         atr:=h.inv.atr
         abb:=h.inv.abb },⟨h.er.1,λt=>(h.er.2 t).mono hle (λ_ _=>rfl)⟩,h.defers,h.fz,h.fzng,h.keep,h.gone⟩
theorem wD{f:Nat->Option (List AV)}{sz:Nat}{v:AV}(h: ∀n j,v= .ptrB n j->f n=S.bx n):eC { S with bx:=f } sz v=eC S sz v:=by
 have hof: ∀ (sz:Nat) (c:AV),T.ofAV { S with bx:=f } sz c=T.ofAV S sz c:=λsz c=>by cases c<;>rfl
 cases v with
 |ptrB n j=>
  have e:=h n j rfl;simp only[eC];rw[e];cases S.bx n with
  |none=>rfl
  |some cs=>
   simp only
   congr 1
 | _=>rfl
theorem jn{p:Nat->Bool}{f:Nat->Option (List AV)}(hf: ∀n,p n=true->f n=S.bx n){sz:Nat}{v:AV}(h:fj p v=true):eC { S with bx:=f } sz v=eC S sz v:=
 wD (λn j e=>hf n (by subst e;exact h))
theorem yj{p:Nat->Bool}{f:Nat->Option (List AV)}(hf: ∀n,p n=true->f n=S.bx n){szs:List Nat}{v:AV}(h:fj p v=true):fk { S with bx:=f } szs v=fk S szs v:=by
 cases v with
 |agg cs=>
  simp only[fk];split
  ·congr 1
   apply bA;intro k;rw[bi,bi];cases hs:szs[k]? with
   |none=>rfl
   |some s=>
    cases hx:cs[k]? with
    |none=>rfl
    |some c=>simp only[af];exact jn hf (fu h (aA hx))
  ·rfl
 |fn g cs=>
  simp only[fk]
  congr 1
  exact aE λc hc=>jn hf (fu h hc)
 |ptrB n j=>exact jn (sz:=szs.headD 0) (v:=.ptrB n j) hf h
 | _=>rfl
theorem yF{p:Nat->Bool}{f:Nat->Option (List AV)}(hf: ∀n,p n=true->f n=S.bx n){o:Oper}(h: ∀x∈o.op.operands,fj p (opd S x)=true):ed D P { S with bx:=f } o=ed D P S o:=by
 have ho:opd { S with bx:=f } =opd S:=funext λx=>by cases x<;>rfl
 have hs: ∀sz fl v,eN { S with bx:=f } sz fl v=eN S sz fl v:=λsz fl v=>by cases v<;>rfl
 have hb: ∀L sz v,gD (dropL { S with bx:=f } L) sz v=gD (dropL S L) sz v:=λL sz v=>by cases v<;>rfl
 have hpn: ∀ss vss,eH { S with bx:=f } ss vss=eH S ss vss:=λss vss=>kY (env:=S.env) ss vss;obtain⟨dst,op,type,pos,after,guard⟩:=o;cases op with
 |buildSlice t len parts=>simp only[ed,ho,hpn]
 |makeSlice t l c=>simp only[ed,ho]
 |call c=>
  obtain⟨cl,as,ts⟩:=c;cases cl with
  |builtin b=>cases b<;>first |rfl| (simp only[ed,ho,hs,hb])
  |invoke r m=>rfl
  |value g=>
   simp only[ed];have hg:fj p (opd S g)=true:=h g (by simp[Op.operands,Call.operands]);have hc:callee { S with bx:=f } g=callee S g:=by unfold callee;rw[ho]
   rw[hc];cases hcl:callee S g with
   |none=>rfl
   |some gc=>
    obtain⟨g',caps⟩:=gc;simp only[ao]
    have hcaps: ∀c∈caps,fj p c=true:=by
     intro c hcm;unfold callee at hcl;split at hcl
     ·grind
     ·rename_i g2 caps2 e;simp only[af,au] at hcl;rw[<-hcl.2] at hcm;rw[e] at hg;exact fu hg hcm
     ·cases hcl
    have :args P { S with bx:=f } ts as caps=args P S ts as caps:=by
     unfold args;rw[ho]
     congr 1
     ·apply bA;intro k;rw[bi,bi];cases hs:ts.toList[k]? with
      |none=>rfl
      |some s=>
       cases hx:as.toList[k]? with
       |none=>rfl
       |some x=>grind [yj,Op.operands,Call.operands]
     ·grind [List.map_congr_left,jn]
    rw[this]
 | _=>rfl
theorem tW{p:Nat->Bool}{f:Nat->Option (List AV)}(hf: ∀n,p n=true->f n=S.bx n){n:Nat}{v:AV}(h:fj p v=true):dR { S with bx:=f } n v=dR S n v:=by
 cases v with
 |ptrB b j=>have:=hf b h;simp only[dR];rw[this]
 | _=>rfl
theorem k9: ∀ (l:List Oper) (S S0:St),qT P l S=some S0->S0= { S with bx:=S0.bx,nb:=S0.nb } /\S0.nb=S.nb+ey l/\(∀n,n<S.nb->S0.bx n=S.bx n)/\(∀n cs,S.nb<=n->S0.bx n=some cs->S.bx n=some cs\/ ∃ (k:Nat) (o:Oper) (zs:List Value),l[k]? =some o/\dY o=true/\n=S0.nb-1-ey (l.drop (k+1))/\cs=zs.map pb)/\
  ∀ (k:Nat) (o:Oper),l[k]? =some o->dY o=true-> ∃t zs,o.op= .alloc t/\lV P t=some zs/\S0.bx (S0.nb-1-ey (l.drop (k+1)))=some (zs.map pb)
 | [],S,S0,h=>by simp only[qT,af] at h;subst h;exact⟨rfl,rfl,λ_ _=>rfl,λn cs _ h=> .inl h,λk o hk=>by simp at hk⟩
 |o::os,S,S0,h=>by
  unfold qT at h;split at h
  ·rename_i t ht;simp only[ah] at h;obtain⟨zs,hz,h⟩:=h;obtain⟨e1,e2,e3,e4,e5⟩:=k9 os _ S0 h;have hbo:dY o=true:=by unfold dY;rw[ht]
   have hc:ey (o::os)=1+ey os:=by simp only[ey,hbo,if_true]
   refine⟨?_,by grind,λn hn=> ?_,λn cs hn hcs=> ?_,λk o' hk hb=> ?_⟩
   ·conv=>lhs;rw[e1]
   ·grind [dQ]
   ·by_cases hnn:n<S.nb+1
    ·have :n=S.nb:=by omega
     subst this;rw[e3 S.nb (cU _)] at hcs;have h2:dQ S.bx S.nb (some (zs.map pb)) S.nb=some cs:=hcs;simp only[dQ,if_true,af] at h2;exact .inr ⟨0,o,zs,rfl,hbo,by grind,h2.symm⟩
    ·rcases e4 n cs (by show S.nb+1<=n;omega) hcs with h1|h1
     ·left;have h2:dQ S.bx S.nb (some (zs.map pb)) n=some cs:=h1;unfold dQ at h2
      grind
     ·obtain⟨k,o',zs',q1,q2,q3,q4⟩:=h1;exact .inr ⟨k+1,o',zs',q1,q2,q3,q4⟩
   ·cases k with
    |zero=>
     simp only[aJ,af] at hk;subst hk;refine⟨t,zs,ht,hz,?_⟩
     have :S0.nb-1-ey os=S.nb:=by rw[e2];show S.nb+1+ey os-1-ey os=S.nb;omega
     simp only[aP,List.drop_succ_cons,cE];rw[this,e3 S.nb (cU _)]
     grind [dQ]
    |succ k=>exact e5 k o' (by simpa using hk) hb
  ·rename_i hno;obtain⟨e1,e2,e3,e4,e5⟩:=k9 os S S0 h
   have hbo:dY o=false:=by
    unfold dY;split
    ·grind
    ·rfl
   grind [ey,List.getElem?_cons_zero]
theorem mW(l:List Oper): ∀ (k:Nat),ey (l.drop k)<=ey l:=by
 intro k
 induction l generalizing k with
 |nil=>simp
 |cons o l ih=>
  cases k with
  |zero=>exact az _
  |succ k=>grind [ey]
theorem pL{l:List Oper}{k:Nat}{o:Oper}(h:l[k]? =some o)(hb:dY o=true):ey (l.drop (k+1))+1=ey (l.drop k):=by have hlt:=(ai.1 h).1;have he:=(ai.1 h).2;rw[cg hlt,he];simp only[ey,hb,if_true];omega
theorem rL{l:List Oper}: ∀ {i j:Nat},i<=j->ey (l.drop j)<=ey (l.drop i):=by
 intro i j h;have :l.drop j=(l.drop i).drop (j-i):=by rw[cn];congr 1;omega
 rw[this];exact mW _ _
end
end
section
open Go Go.RowKit
section
variable {P:Program} {w0 w w':World} {W:Nat->Prop} {btI bt bt':Bt} {SI S S' SV:St} {a a':Act} {D:iC} {Q:Exit->Act->World->Prop} {ops:Array Oper} {ms:List eP}
def iP(ops:Array Oper)(S:St)(i:Nat):Nat:=S.nb-1-ey (ops.toList.drop (i+1))
def o8(ops:Array Oper)(S:St)(L:Array Bool)(n:Nat):Bool:=(List.range ops.size).any λi=>match ops[i]? with |some o=>dY o&& !L.getD i false&&(iP ops S i==n)|none=>false
def nU(ops:Array Oper)(S:St)(L:Array Bool)(n:Nat):Option (List AV):=if o8 ops S L n then none else S.bx n
theorem fM{S:St}{L:Array Bool}{n:Nat}:o8 ops S L n=true↔ ∃i o,ops[i]? =some o/\dY o=true/\L.getD i false=false/\iP ops S i=n:=by
 unfold o8
 grind
def mB(ops:Array Oper)(S SV:St)(ms:List eP)(L:Array Bool):St:={ S with env:=eB ops S SV L,bx:=nU ops S L,gh:=nj S ms L,ng:=SV.ng }
abbrev zX:AV->AV:=λv=>v
def AL[dE](w0:World)(W:Nat->Prop)(btI:Bt)(SI:St)(D:iC)(P:Program)(ops:Array Oper)(S SV S':St)(ms:List eP)(M:Bool)(L:Array Bool)(a:Act)(w:World):Prop:=
 (∃bt,(∀i o,ops[i]? =some o->dB o=true->L.getD i false=false)/\Lv w0 W btI SI bt (mB ops S SV ms L) a w/\ ∀ (p:dM) (c:Nat),S.ng<=p.r->gO ms p.r=some c->L.getD c false=false->bt.κ p=0)\/
 (∃bt k Sm,∃K:AV->AV,(∀i o,ops[i]? =some o->dB o=false->gr o=true->L.getD i false=true)/\(∀i o,ops[i]? =some o->dB o=true->(L.getD i false=true↔i<k))/\pp D P ops (ops.toList.drop k) Sm=some S'/\Sm.env=(λt=>K (SV.env t))/\Sm.nt=S.nt/\
   (∀i o t x n,ops[i]? =some o->o.op= .load t x->L.getD i false=false->dR Sm n (fI ops.toList (ef ops.toList) S SV i x)=dR SV n (fI ops.toList (ef ops.toList) S SV i x))/\Lv w0 W btI SI bt { Sm with env:=λt=>K (eB ops S SV L t) } a w/\(M=true->K=zX)/\(∀v,oI v=true->K v=v)/\(M=false-> ∀i oi,ops[i]? =some oi->dB oi=false->L.getD i false=false->iQ ops.toList (ef ops.toList) S SV i oi=true))\/
 (∃bt k Sm,(∀i o,ops[i]? =some o->dB o=false->L.getD i false=true)/\(∀i o,ops[i]? =some o->dB o=true->(L.getD i false=true↔i<k))/\pp D P ops (ops.toList.drop k) Sm=some S'/\Lv w0 W btI SI bt Sm a w)
theorem rR{all:Array Oper}: ∀ (n k:Nat) (S:St),(∀i o,k<=i->i<k+n->ops.toList[i]? =some o->dB o=false)->pp D P all (ops.toList.drop k) S=pp D P all (ops.toList.drop (k+n)) S:=by
 intro n
 induction n with
 |zero=>intro k S _;rfl
 |succ n ih=>
  intro k S h;cases hk:ops.toList[k]? with
  |none=>grind [List.drop_eq_nil_of_le]
  |some o=>
   have hlt:=(ai.1 hk).1;have ho:=(ai.1 hk).2;rw[cg hlt,ho];simp only[pp,h k o (az _) (by omega) hk,aQ,if_false]
   grind
theorem t9[dE](hD:fr P D)(hm:P.follows .mixedOrders=true)(hok:nY P ops=true){id:Nat}{Sp:St}(hpre:qT P ops.toList Sp=some S)(h:Lv w0 W btI SI bt Sp a w)(hV:po D P ops ops.toList S=some (SV,ms))(hev:ua (iH P) ops.toList (ef ops.toList) S ms SV=true)(hS:pp D P ops ops.toList SV=some S')
  (hK: ∀bt' a' w',Lv w0 W btI SI bt' S' a' w'->Q .normal a' w'): (Code.region id ops true).wp P Q a w:=by
 have ok:=rM hok;obtain⟨pr1,pr2,pr3,pr4,pr5⟩:=k9 _ _ _ hpre;have sgh:S.gh=Sp.gh:=by rw[pr1]
 have sng:S.ng=Sp.ng:=by rw[pr1]
 have sfz:S.fz=Sp.fz:=by rw[pr1]
 have sev:S.env=Sp.env:=by rw[pr1]
 have hgh: ∀r t,S.gh r=some t->r<S.ng:=λr t ht=>by rw[sng];rw[sgh] at ht;exact h.inv.gh r t ht
 have hfzI:S.fz=SI.fz:=sfz.trans h.fz;have hfzg:S.fz<=S.ng:=by rw[sfz,sng];exact h.fzng
 have lab: ∀i o,ops[i]? =some o->dY o=true->iP ops S i<S.nb/\Sp.nb<=iP ops S i/\S.nb=iP ops S i+1+ey (ops.toList.drop (i+1)):=by intro i o ho hb;have h1:=pL (l:=ops.toList) (k:=i) (by simpa using ho) hb;have h2:=mW ops.toList i;unfold iP;omega
 have labInj: ∀i j o o',ops[i]? =some o->ops[j]? =some o'->dY o=true->dY o'=true->iP ops S i=iP ops S j->i=j:=by
  have half: ∀i j o o',ops[i]? =some o->ops[j]? =some o'->dY o=true->dY o'=true->i<j->iP ops S i≠iP ops S j:=by intro i j o o' ho ho' hb hb' hij he;have a1:=(lab i o ho hb).2.2;have a2:=(lab j o' ho' hb').2.2;have a3:=pL (l:=ops.toList) (k:=j) (by simpa using ho') hb';have a4:=rL (l:=ops.toList) (i:=i+1) (j:=j) hij;omega
  intro i j o o' ho ho' hb hb' he;rcases Nat.lt_trichotomy i j with hlt|rfl|hlt
  ·exact absurd he (half i j o o' ho ho' hb hb' hlt)
  ·rfl
  ·exact absurd he.symm (half j i o' o ho' ho hb' hb hlt)
 have bxOf: ∀n cs,S.bx n=some cs->(n<Sp.nb/\Sp.bx n=some cs)\/ ∃ (k:Nat) (o:Oper) (zs:List Value),ops[k]? =some o/\dY o=true/\n=iP ops S k/\cs=zs.map pb:=by
  intro n cs hn;by_cases hlt:n<Sp.nb
  ·exact .inl ⟨hlt,by rw[<-pr3 n hlt];exact hn⟩
  ·rcases pr4 n cs (by omega) hn with h1| ⟨k,o,zs,q1,q2,q3,q4⟩
   ·exact absurd (h.inv.bx n cs h1).1 hlt
   ·exact .inr ⟨k,o,zs,by simpa using q1,q2,q3,q4⟩
 have hbxn: ∀n cs,S.bx n=some cs->n<S.nb:=by
  intro n cs hn;rcases bxOf n cs hn with ⟨h1,_⟩| ⟨k,o,zs,q1,q2,rfl,_⟩
  ·omega
  ·exact (lab k o q1 q2).1
 have old: ∀n,n<S.nb-ey ops.toList->n<Sp.nb:=by intro n hn;omega
 have oldL: ∀ (L:Array Bool) n,n<Sp.nb->nU ops S L n=S.bx n:=by intro L n hn;unfold nU;rw[if_neg];intro hw;obtain⟨i,o,ho,hb,_,he⟩:=fM.1 hw;have:=(lab i o ho hb).2.1;omega
 have fullB: ∀L:Array Bool,(∀i o,ops[i]? =some o->dY o=true->L.getD i false=true)->nU ops S L=S.bx:=by
  intro L hL
  funext n
  unfold nU;rw[if_neg];intro hw;obtain⟨i,o,ho,hb,hl,_⟩:=fM.1 hw;rw[hL i o ho hb] at hl;cases hl
 have tl: ∀ {i:Nat} {o:Oper},ops.toList[i]? =some o↔ops[i]? =some o:=by intro i o;rw[cw]
 have hpw:ops.toList.Pairwise (λx y=> ∀d,x.dst=some d->y.dst≠some d):=by rw[List.pairwise_iff_getElem];intro i j hi hj hij d h1 h2;have:=ok.dst i j _ _ d (tl.1 (aq hi)) (tl.1 (aq hj)) h1 h2;omega
 obtain⟨f0,f1,fN,f2,f5,f6,f3⟩:=v6 ops.toList S SV ms hpw hV;have hb: ∀ (k:Nat) (m:eP),ms[k]? =some m->S.ng<=m.b:=λk m hk=>(f5 k m hk).1;have hbN: ∀ (k:Nat) (m:eP),ms[k]? =some m->m.b+m.adds.length<=SV.ng:=λk m hk=>(f5 k m hk).2.1;have hd: ∀ (k j:Nat) (m m':eP),ms[k]? =some m->j<k->ms[j]? =some m'->m'.b+m'.adds.length<=m.b:=λk j m m' hk hj hm=>(f5 k m hk).2.2 j m' hj hm;have hlen:ms.length=ops.size:=by simpa using f0
 unfold ua at hev;simp only[ak] at hev;obtain⟨⟨⟨hev1,hev2⟩,hev3⟩,hev4⟩:=hev
 have hc: ∀ (k:Nat) (m:eP) (r:Nat),ms[k]? =some m->r∈m.cons->r<S.ng->S.fz<=r:=by intro k m r hk hr hlt;have:=ay.1 (ay.1 hev1 m (aA hk)) r hr;simp only[bq,decide_eq_true_eq] at this;omega
 have hsay: ∀ (i:Nat) (o:Oper) (x:Operand) (r:Nat),ops[i]? =some o->dB o=false->x∈o.op.operands->r∈gy (fI ops.toList (ef ops.toList) S SV i x)->(∀j∈iU ms r,j=i\/i∈(ef ops.toList).getD j [])/\(r<S.ng\/ ∃c,gO ms r=some c/\c∈(ef ops.toList).getD i []):=by
  intro i o x r hi hs hx hr;have hin:=(aD.1 hi).1;have:=ay.1 hev2 i (bw.2 (by simpa using hin));simp only[tl.2 hi,hs,b7] at this;have:=ay.1 this r (List.mem_flatMap.2 ⟨x,by simpa using hx,hr⟩);simp only[ak,bq,decide_eq_true_eq,ay,beq_iff_eq,bg] at this;refine⟨this.1,?_⟩;rcases this.2 with h|h
  ·exact .inl h
  ·right;split at h
   ·rename_i c hcm;exact⟨c,hcm,bg.1 h⟩
   ·cases h
 have fR: ∀f,kX ops.toList (ef ops.toList) f=true-> ∀ (i j:Nat) (oi oj:Oper),ops[i]? =some oi->ops[j]? =some oj->dB oj=true->dB oi=false->i∉(ef ops.toList).getD j [] ->f i j oi oj=true:=by intro f hf i j oi oj hi hj hsj hsi hnb;have h1:=ay.1 hf j (bw.2 (by simpa using (aD.1 hj).1));simp only[tl.2 hj,hsj,dg,b7] at h1;have h2:=ay.1 h1 i (bw.2 (by simpa using (aD.1 hi).1));simp only[tl.2 hi,hsi,b7,bq,bg] at h2;exact h2.resolve_left hnb
 obtain⟨M,hM⟩: ∃M,M=kX ops.toList (ef ops.toList) (jk (iH P) ops.toList (ef ops.toList) S SV):=⟨_,rfl⟩
 have hloose:M=true-> ∀ (i j:Nat) (oi oj:Oper),ops[i]? =some oi->ops[j]? =some oj->dB oj=true->dB oi=false->i∉(ef ops.toList).getD j [] ->jk (iH P) ops.toList (ef ops.toList) S SV i j oi oj=true:=
  λh=>fR _ (by rw[<-hM];exact h)
 have hlooseR:M=false-> ∀ (i j:Nat) (oi oj:Oper),ops[i]? =some oi->ops[j]? =some oj->dB oj=true->dB oi=false->i∉(ef ops.toList).getD j [] ->iQ ops.toList (ef ops.toList) S SV i oi=true:=by intro h;rw[<-hM,h,b7] at hev3;exact fR (λi _ oi _=>iQ ops.toList (ef ops.toList) S SV i oi) hev3
 have told:=xV (S:=S) (ms:=ms) hgh hb hd
 have hboxP: ∀ (i:Nat) (o:Oper),ops[i]? =some o->dB o=false->dY o=false->(∀x∈o.op.operands,fj (λn=>Nat.blt n (S.nb-ey ops.toList)) (fI ops.toList (ef ops.toList) S SV i x)=true)/\ ∀d,o.dst=some d->fj (λn=>Nat.blt n (S.nb-ey ops.toList)) (SV.env d)=true:=by
  intro i o hi hs hb;have h1:=ay.1 hev4 i (bw.2 (by simpa using (aD.1 hi).1));simp only[tl.2 hi,hs,hb,b7,ak] at h1;refine⟨λx hx=> ?_,λd hd=> ?_⟩
  ·have h3:=ay.1 h1.1 x (by simpa using hx);simp only[ak] at h3;exact h3.1
  ·have h2:=h1.2;rw[hd] at h2;exact h2
 have hfreeP: ∀ (i:Nat) (o:Oper),ops[i]? =some o->dB o=false->dY o=false->im o=true-> ∀x∈o.op.operands,fj (rX S ms) (fI ops.toList (ef ops.toList) S SV i x)=true:=by intro i o hi hs hb hfn x hx;have h1:=ay.1 hev4 i (bw.2 (by simpa using (aD.1 hi).1));simp only[tl.2 hi,hs,hb,b7,ak] at h1;have h3:=ay.1 h1.1 x (by simpa using hx);simp only[hfn,dg,b7,ak] at h3;exact h3.2
 have agreeV: ∀ (i:Nat) (o:Oper) (env:Nat->AV),ops[i]? =some o->(∀ (t:Nat) (j:Nat) (oj:Oper),j<i->ops.toList[j]? =some oj->dB oj=false->oj.dst=some t->env t=SV.env t)->(∀t,(∀ (j:Nat) (oj:Oper),j<i->ops.toList[j]? =some oj->dB oj=false->oj.dst≠some t)->env t=S.env t)->
   ∀t∈o.looksAt ops,env t=lF ops.toList ((ef ops.toList).getD i []) S SV t:=by
  intro i o env ho g1 g2 t ht;have hin:=(aD.1 ho).1;unfold lF;split
  ·rename_i hany;obtain⟨j,hj,hjd⟩:=bN.1 hany;cases hoj:ops.toList[j]? with
   |none=>rw[hoj] at hjd;simp at hjd
   |some oj=>
    rw[hoj] at hjd;have hdj:oj.dst=some t:=by simpa using hjd
    have hsj:dB oj=false:=by
     cases hx:dB oj with
     |false=>rfl
     |true=>rw[(ok.st j oj (tl.1 hoj) hx).1] at hdj;cases hdj
    exact g1 t j oj (ok.lt i j hin hj) hoj hsj hdj
  ·rename_i hany;refine g2 t (λj oj hj hoj _ hdj=> ?_);rcases ok.look j i oj o t (tl.1 hoj) ho hdj ht with h| ⟨_,h|h⟩
   ·exact hany (bN.2 ⟨j,h,by rw[hoj];simp[hdj]⟩)
   ·omega
   ·have:=ok.lt j i (aD.1 (tl.1 hoj)).1 h;omega
 have opdV: ∀ (i:Nat) (o:Oper) (X:St),ops[i]? =some o->(∀t∈o.looksAt ops,X.env t=lF ops.toList ((ef ops.toList).getD i []) S SV t)-> ∀x∈o.op.operands,opd X x=fI ops.toList (ef ops.toList) S SV i x:=by
  intro i o X ho hX x hx;cases x with
  |tmp t=>exact hX t (bR _ (cu.2 ⟨.tmp t,by simpa using hx,rfl⟩))
  | _=>rfl
 have hcons0: ∀ (j:Nat) (m:eP) (r:Nat),ms[j]? =some m->r∈m.cons->(∀j'∈iU ms r,j'=j\/j∈(ef ops.toList).getD j' [])/\(r<S.ng\/ ∃c,gO ms r=some c/\c∈(ef ops.toList).getD j []):=by
  intro j m r hj hr;have hjn:j<ops.size:=by rw[<-hlen];exact (ai.1 hj).1
  have hoj:ops[j]? =some ops[j] :=aR hjn;cases hso:dB ops[j] with
  |true=>have:=(f6 j _ m (tl.2 hoj) hj hso).2;rw[this] at hr;cases hr
  |false=>
   obtain⟨env,b,m',g0,g1,g2,g3,g4,g5,g6,g7,g8⟩:=f3 j _ (tl.2 hoj) hso;rw[hj] at g0;simp only[af] at g0;subst g0;cases hbb:b with
   |false=>rw[(g7 hbb).2.1] at hr;cases hr
   |true=>
    cases hnn:eA ops[j] with
    |false=>
     have hcn:m.cons= [] :=by
      cases hxb:dY ops[j] with
      |true=>exact (g8 hxb).2.2.1
      |false=>obtain⟨_,_,_,hcn,_⟩:=g6 hbb hnn hxb;exact hcn
     rw[hcn] at hr;cases hr
    |true=>obtain⟨v,hst,_⟩:=g5 hbb hnn;obtain⟨x,hx,hrx⟩:=uI hst r hr;have hagr:=agreeV j _ env hoj g1 g2;rw[opdV j _ { S with env:=env,gh:=jQ S.gh (ms.take j),ng:=m.b } hoj hagr x hx] at hrx;exact hsay j _ x r hoj hso hx hrx
 have hcons: ∀ (j:Nat) (m:eP) (r:Nat),ms[j]? =some m->r∈m.cons->(r<S.ng\/ ∃c,gO ms r=some c/\c∈(ef ops.toList).getD j [])/\ ∀j'∈iU ms r,j'=j:=by
  intro j m r hj hr;obtain⟨q1,q2⟩:=hcons0 j m r hj hr;refine⟨q2,λj' hj'=> ?_⟩;obtain⟨m',p1,p2⟩:=wx hj';have l1:j<ops.size:=by rw[<-hlen];exact (ai.1 hj).1
  have l2:j'<ops.size:=by rw[<-hlen];exact (ai.1 p1).1
  rcases q1 j' hj' with e|e
  ·exact e
  ·rcases (hcons0 j' m' r p1 p2).1 j (kV hj hr) with e'|e'
   ·exact e'.symm
   ·have:=ok.lt _ _ l1 e';have:=ok.lt _ _ l2 e;omega
 have heavy: ∀ (c:Nat) (m:eP) (o:Oper),ms[c]? =some m->ops[c]? =some o->(0<m.adds.length\/ ∃r,r∈m.cons)->dB o=false/\eA o=true:=by
  intro c m o hm ho hor;cases hs:dB o with
  |true=>
   obtain⟨e1,e2⟩:=f6 c o m (tl.2 ho) hm hs;rw[e1,e2] at hor;rcases hor with h| ⟨r,h⟩
   ·simp at h
   ·cases h
  |false=>
   refine⟨rfl,?_⟩;obtain⟨env,b,m',g0,g1,g2,g3,g4,g5,g6,g7,g8⟩:=f3 c o (tl.2 ho) hs;rw[hm] at g0;simp only[af] at g0;subst g0;cases hn:eA o with
   |true=>rfl
   |false=>
    exfalso
    have :m.adds= [] /\m.cons= [] :=by
     cases hb:b with
     |true=>
      cases hxb:dY o with
      |true=>exact⟨(g8 hxb).2.1,(g8 hxb).2.2.1⟩
      |false=>obtain⟨_,_,e1,e2,_⟩:=g6 hb hn hxb;exact⟨e1,e2⟩
     |false=>obtain⟨e1,e2,_⟩:=g7 hb;exact⟨e1,e2⟩
    rw[this.1,this.2] at hor;rcases hor with h| ⟨r,h⟩
    ·simp at h
    ·cases h
 have ghFull: ∀L:Array Bool,(∀i o,ops[i]? =some o->dB o=false->eA o=true->L.getD i false=true)->nj S ms L=SV.gh:=by
  intro L hL;rw[f1];simp only
  funext r
  have tk:=told ms.length (az _) r;rw[List.take_length] at tk;unfold nj;by_cases hr:r<S.ng
  ·rw[if_pos hr];by_cases htk:fh ms L r=true
   ·rw[if_pos htk];obtain⟨j,m',p1,p2,p3⟩:=fe.1 htk;exact ((tk.1 hr).2 j m' p1 (ai.1 p1).1 p3).symm
   ·rw[if_neg htk];refine ((tk.1 hr).1 (λj m' p1 hjl p3=>htk (fe.2 ⟨j,m',p1,?_,p3⟩))).symm;have hjo:ops[j]? =some (ops[j]'(by omega)):=aR _;obtain⟨hns',hnw'⟩:=heavy j m' _ p1 hjo (.inr ⟨r,p3⟩);exact hL j _ hjo hns' hnw'
  ·rw[if_neg hr];cases hmk:gO ms r with
   |none=>simp only;rw[tk.2.1 (by omega) hmk]
   |some c=>
    simp only;obtain⟨m,q1,q2,q3⟩:=(eX hd).1 hmk;have hcl:c<ms.length:=(ai.1 q1).1;have hco:ops[c]? =some (ops[c]'(by omega)):=aR _;obtain⟨hns,hnw⟩:=heavy c m _ q1 hco (.inl (by omega));rw[hL c _ hco hns hnw];have t3:=tk.2.2 c (by omega) hmk;by_cases htk:fh ms L r=true
    ·rw[htk];obtain⟨j,m',p1,p2,p3⟩:=fe.1 htk;obtain⟨c',p4,p5⟩:=(hcons j m' r p1 p3).1.resolve_left (by omega);rw[hmk] at p4;simp only[af] at p4;subst p4;have hjl:=(ai.1 p1).1;rw[t3.2.2 j m' p1 (ok.lt j c (by omega) p5) hjl p3];rfl
    ·have :fh ms L r=false:=by simpa using htk
     rw[this];simp only[Bool.not_false,df,if_true];refine (t3.2.1 hcl (λj m' p1 _ hjl p3=>htk (fe.2 ⟨j,m',p1,?_,p3⟩))).symm;have hjo:ops[j]? =some (ops[j]'(by omega)):=aR _;obtain⟨hns',hnw'⟩:=heavy j m' _ p1 hjo (.inr ⟨r,p3⟩);exact hL j _ hjo hns' hnw'
 have hSV: ∀E:Nat->AV,({ SV with env:=E }:St)= { S with env:=E,gh:=SV.gh,ng:=SV.ng } :=by
  intro E;have b1:SV.bx=S.bx:=by rw[f1]
  have b2:SV.nb=S.nb:=by rw[f1]
  have b3:SV.fz=S.fz:=by rw[f1]
  have b4:SV.orc=S.orc:=by rw[f1]
  have b5:SV.nt=S.nt:=by rw[f1]
  show (⟨E,SV.bx,SV.gh,SV.nb,SV.ng,SV.fz,SV.orc,SV.nt⟩:St)=⟨E,S.bx,SV.gh,S.nb,SV.ng,S.fz,S.orc,S.nt⟩;rw[b1,b2,b3,b4,b5]
 have toN: ∀ {L:Array Bool},(∀i o,ops[i]? =some o->dB o=false->gr o=true->L.getD i false=true)-> ∀i o,ops[i]? =some o->dB o=false->eA o=true->L.getD i false=true:=
  λhL i o h1 h2 h3=>hL i o h1 h2 (by unfold gr;rw[h3];rfl)
 have boxNS: ∀ {o:Oper},dY o=true->dB o=false/\eA o=false:=by
  intro o hb;unfold dY at hb;split at hb
  ·rename_i t ht;unfold dB eA;rw[ht];exact⟨rfl,rfl⟩
  ·cases hb
 have full: ∀L:Array Bool,(∀i o,ops[i]? =some o->dB o=false->gr o=true->L.getD i false=true)->mB ops S SV ms L= { SV with env:=eB ops S SV L } :=by intro L hL;rw[hSV];unfold mB;rw[ghFull L (toN hL),fullB L (λi o ho hb=>hL i o ho (boxNS hb).1 (by unfold gr;rw[hb,Bool.or_true]))]
 have envFull: ∀L:Array Bool,(∀i o,ops[i]? =some o->dB o=false->L.getD i false=true)->eB ops S SV L=SV.env:=by
  intro L hL
  funext t
  unfold eB;split
  ·rfl
  ·rename_i hn;refine (f2 t (λo ho hs hdo=>hn ?_)).symm;obtain⟨i,hi,hio⟩:=aU ho;have hi':ops[i]? =some o:=tl.1 (by rw[<-hio];exact aq hi);exact fi.2 ⟨i,o,hi',hL i o hi' hs,hdo⟩
 have none_left: ∀ (k:Nat) (Sm:St),(∀i o,k<=i->ops[i]? =some o->dB o=false)->pp D P ops (ops.toList.drop k) Sm=some S'->Sm=S':=by intro k Sm hk he;rw[rR ops.toList.length k Sm (λi o h1 _ h2=>hk i o h1 (tl.1 h2)),bV (by omega)] at he;simpa [pp] using he
 have fin: ∀L a w,(∀i,i<ops.size->L.getD i false=true)->AL w0 W btI SI D P ops S SV S' ms M L a w->Q .normal a w:=by
  intro L a w hL hsim;have hall: ∀i o,ops[i]? =some o->dB o=false->L.getD i false=true:=λi o hi _=>hL i (aD.1 hi).1
  have leftS: ∀ (bt:Bt) (k:Nat) (Sm:St),(∀i o,ops[i]? =some o->dB o=true->(L.getD i false=true↔i<k))->pp D P ops (ops.toList.drop k) Sm=some S'->Lv w0 W btI SI bt Sm a w->Q .normal a w:=by
   intro bt k Sm h2 h3 h4
   have:=none_left k Sm (λi o hk hi=>by
    cases hx:dB o with
    |false=>rfl
    |true=>have:=(h2 i o hi hx).1 (hL i (aD.1 hi).1);omega) h3
   exact hK _ _ _ (this ▸ h4)
  rcases hsim with ⟨bt,h1,h2,_⟩| ⟨bt,k,Sm,K,_,h2,h3,e1,_,_,h4,_⟩| ⟨bt,k,Sm,h1,h2,h3,h4⟩
  ·rw[full L (λi o hi hs _=>hall i o hi hs),envFull L hall] at h2
   have:=none_left 0 SV (λi o _ hi=>by
    cases hx:dB o with
    |false=>rfl
    |true=>have:=h1 i o hi hx;rw[hL i (aD.1 hi).1] at this;cases this) hS
   exact hK _ _ _ (this ▸ h2)
  ·rw[envFull L hall,<-e1] at h4;exact leftS bt k Sm h2 h3 h4
  ·exact leftS bt k Sm h2 h3 h4
 have hbx: ∀k cs,S.bx k=some cs-> ∀c∈cs,∀r∈gy c,r<S.ng:=by
  intro k cs hk c hcm r hr;rcases bxOf k cs hk with ⟨_,hk'⟩| ⟨_,_,zs,_,_,_,rfl⟩
  ·obtain⟨_,_,arr,e,_,hsz,hcell⟩:=h.inv.bx k cs hk';obtain⟨j,hj,hjc⟩:=aU hcm;obtain⟨u,_,hu,_⟩:=hcell j c (by rw[<-hjc];exact aq hj);have:=Aw hu r hr
   rwa [h.inv.ng,<-sng] at this
  ·obtain⟨x,_,rfl⟩:=aG.1 hcm;rw[yA] at hr;cases hr
 have main: ∀ (fuel:Nat) (L:Array Bool) (rem:List Nat) (a:Act) (w:World),rem.length=fuel->rem.Nodup->(∀i,i∈rem↔i<ops.size/\L.getD i false=false)->L.size=ops.size->
   (∀j,j<ops.size->L.getD j false=true-> ∀i∈(ef ops.toList).getD j [],L.getD i false=true)->AL w0 W btI SI D P ops S SV S' ms M L a w->wpAny P .any ops Q fuel L a w:=by
  have flip: ∀ (L:Array Bool) (i:Nat),L.size=ops.size->i<ops.size->(L.getD i true=L.getD i false):=by intro L i h1 h2;simp only[aN];rw[aR (by omega)];rfl
  have nor: ∀ (L:Array Bool),L.size=ops.size->Region.ready .any ops L= [] -> ∀i,i<ops.size->L.getD i false=true:=by
   intro L hsz hr i
   induction i using Nat.strongRecOn with
   | _ i ih=>
     intro hi;cases hx:L.getD i false with
     |true=>rfl
     |false=>
      have hm:i∈Region.ready .any ops L:=by rw[mem_ready];refine⟨by rw[flip L i hsz hi];exact hx,ops[i],aR hi,λe he hb=> ?_⟩;have:=ok.on i _ e (aR hi) he hb;exact ih _ this (by omega)
      rw[hr] at hm;cases hm
  intro fuel
  induction fuel with
  |zero=>
   intro L rem a w hl _ hrem hsz hcl hsim
   have hall: ∀i,i<ops.size->L.getD i false=true:=by
    intro i hi;cases hx:L.getD i false with
    |true=>rfl
    |false=>have:=(hrem i).2 ⟨hi,hx⟩;rw[bc hl] at this;cases this
   refine⟨?_,fin L a w hall hsim⟩;cases hr:Region.ready .any ops L with
   |nil=>rfl
   |cons i rs=>
    have hm:i∈Region.ready .any ops L:=by rw[hr];exact aK
    obtain⟨h1,o,h2,_⟩:=mem_ready.1 hm;have hi:=(aD.1 h2).1;rw[flip L i hsz hi,hall i hi] at h1;cases h1
  |succ fuel ih=>
   intro L rem a w hl hnd hrem hsz hcl hsim;refine⟨λhr=>fin L a w (nor L hsz hr) hsim,λi hi=> ?_⟩;obtain⟨hun,o,ho,hpre⟩:=mem_ready.1 hi;have hin:=(aD.1 ho).1;rw[flip L i hsz hin] at hun
   have hB: ∀j∈(ef ops.toList).getD i [],L.getD j false=true:=by
    intro j hj;obtain⟨e,he,hb,hor⟩:=ok.edge i j o ho hj;have hl:=hpre e he hb;rcases hor with rfl|hor
    ·exact hl
    ·exact hcl e.on (Nat.lt_trans (ok.on i o e ho he hb) hin) hl j hor
   have hiL:i<L.size:=by omega
   have hset: ∀j,(L.setIfInBounds i true).getD j false=if j=i then true else L.getD j false:=λj=>jK hiL
   have next: ∀a' w',AL w0 W btI SI D P ops S SV S' ms M (L.setIfInBounds i true) a' w'->wpAny P .any ops Q fuel (L.setIfInBounds i true) a' w':=by
    intro a' w' hs';refine ih (L.setIfInBounds i true) (rem.erase i) a' w' ?_ (hnd.erase i) (λj=> ?_) (by simpa using hsz) (λj hj hjt k hk=> ?_) hs'
    ·rw[List.length_erase_of_mem ((hrem i).2 ⟨hin,hun⟩),hl];rfl
    ·rw[hnd.mem_erase_iff,hrem j,hset j];by_cases hji:j=i
     ·subst hji;simp
     ·simp[hji]
    ·rw[hset] at hjt ⊢;split at hjt
     ·rename_i hji;subst hji;split
      ·rfl
      ·exact hB k hk
     ·split
      ·rfl
      ·exact hcl j hj hjt k hk
   unfold wpOp;rw[ho];simp only;cases hst:dB o with
   |true=>
    obtain⟨hdn,hgn⟩:=ok.st i o ho hst
    have hheavy: ∀j oj,ops[j]? =some oj->dB oj=false->gr oj=true->L.getD j false=true:=by
     intro j oj hj hs hn
     have hji:j≠i:=by intro hji;subst hji;rw[ho] at hj;simp only[af] at hj;rw[<-hj,hst] at hs;cases hs
     rcases ok.late j i oj o hj ho hji hst (.inl hs) with h|h
     ·exact hB j h
     ·rw[hn] at h;cases h.2
    have hls: ∀j oj,ops[j]? =some oj->dB oj=true->j<i->L.getD j false=true:=λj oj hj hs hlt=>by
     rcases ok.late j i oj o hj ho (by omega) hst (.inr hlt) with h|h
     ·exact hB j h
     ·rw[hs] at h;cases h.1
    have hw:Region.wanted o (yielded ops a.tmps)=true:=by simp[Region.wanted,hgn]
    have stepS: ∀ (k:Nat) (Sm:St),(∀i o,ops[i]? =some o->dB o=true->(L.getD i false=true↔i<k))->pp D P ops (ops.toList.drop k) Sm=some S'-> ∃S1,one D P Sm o=some S1/\pp D P ops (ops.toList.drop (i+1)) S1=some S':=by
     intro k Sm h2 h3
     have hki:k<=i:=by
      cases cZ i k with
      |inl hlt=>have:=(h2 i o ho hst).2 hlt;rw[hun] at this;cases this
      |inr h=>exact h
     have hskip:=rR (D:=D) (P:=P) (all:=ops) (ops:=ops) (i-k) k Sm (λj oj h1 h2' h3'=>by
      cases hx:dB oj with
      |false=>rfl
      |true=>have:=(h2 j oj (tl.1 h3') hx).1 (hls j oj (tl.1 h3') hx (by omega));omega)
     rw[hskip,show k+(i-k)=i by omega,cg (by simpa using hin)] at h3
     have hoi:ops.toList[i]'(by simpa using hin)=o:=by have:=(aD.1 ho).2;simpa using this
     rw[hoi] at h3;simp only[pp,hst,if_true] at h3;split at h3
     ·simp only[ah] at h3;exact h3
     ·cases h3
    have iff': ∀k,(∀i o,ops[i]? =some o->dB o=true->(L.getD i false=true↔i<k))-> ∀j oj,ops[j]? =some oj->dB oj=true->((L.setIfInBounds i true).getD j false=true↔j<i+1):=by
     intro k h2 j oj hj hs
     have hki:k<=i:=by
      cases cZ i k with
      |inl hlt=>have:=(h2 i o ho hst).2 hlt;rw[hun] at this;cases this
      |inr h=>exact h
     rw[hset];split
     ·rename_i hji;simp[hji]
     ·rename_i hji;constructor
      ·intro hx;have:=(h2 j oj hj hs).1 hx;omega
      ·intro hx;exact hls j oj hj hs (by omega)
    by_cases hns: ∀j oj,ops[j]? =some oj->dB oj=false->L.getD j false=true
    ·obtain⟨bt,k,Sm,h2,h3,h4⟩: ∃bt k Sm,(∀i o,ops[i]? =some o->dB o=true->(L.getD i false=true↔i<k))/\pp D P ops (ops.toList.drop k) Sm=some S'/\Lv w0 W btI SI bt Sm a w:=by
      rcases hsim with ⟨bt,h1,h2,_⟩| ⟨bt,k,Sm,K,_,h2,h3,e1,_,_,h4,_⟩| ⟨bt,k,Sm,_,h2,h3,h4⟩
      ·rw[full L hheavy,envFull L hns] at h2;exact⟨bt,0,SV,λi o hi hs=>by rw[h1 i o hi hs];simp,hS,h2⟩
      ·rw[envFull L hns,<-e1] at h4;exact⟨bt,k,Sm,h2,h3,h4⟩
      ·exact⟨bt,k,Sm,h2,h3,h4⟩
     obtain⟨S1,g1,g2⟩:=stepS k Sm h2 h3;rw[if_pos hw];refine .inl (jR hD h4 (ok.ok i o ho) g1 (λbt' a' w' h'=>next a' w' (.inr (.inr ⟨bt',i+1,S1,λj oj hj hs=> ?_,iff' k h2,g2,h'⟩))));rw[hset];split
     ·rfl
     ·exact hns j oj hj hs
    ·obtain⟨jp,ojp,hjp,hsp,hup⟩: ∃j oj,ops[j]? =some oj/\dB oj=false/\L.getD j false=false:=by
      apply Classical.byContradiction;intro hno;refine hns (λj oj hj hs=> ?_);cases hx:L.getD j false with
      |true=>rfl
      |false=>exact absurd ⟨j,oj,hj,hs,hx⟩ hno
     obtain⟨bt,k,Sm,K,h2,h3,e1,e2,hmem,h4,hK1,hK2⟩: ∃bt k Sm,∃K:AV->AV,(∀i o,ops[i]? =some o->dB o=true->(L.getD i false=true↔i<k))/\pp D P ops (ops.toList.drop k) Sm=some S'/\Sm.env=(λt=>K (SV.env t))/\Sm.nt=S.nt/\
       (∀i o t x n,ops[i]? =some o->o.op= .load t x->L.getD i false=false->dR Sm n (fI ops.toList (ef ops.toList) S SV i x)=dR SV n (fI ops.toList (ef ops.toList) S SV i x))/\Lv w0 W btI SI bt { Sm with env:=λt=>K (eB ops S SV L t) } a w/\(M=true->K=zX)/\(∀v,oI v=true->K v=v):=by
      rcases hsim with ⟨bt,h1,h2,_⟩| ⟨bt,k,Sm,K,_,h2,h3,e1,e2,hmem,h4,hK1,hK2,_⟩| ⟨bt,k,Sm,h1,_⟩
      ·rw[full L hheavy] at h2;exact⟨bt,0,SV,zX,λi o hi hs=>by rw[h1 i o hi hs];simp,hS,rfl,by rw[f1],λ_ _ _ _ _ _ _ _=>rfl,h2,λ_=>rfl,λ_ _=>rfl⟩
      ·exact⟨bt,k,Sm,K,h2,h3,e1,e2,hmem,h4,hK1,hK2⟩
      ·have:=h1 jp ojp hjp hsp;rw[hup] at this;cases this
     obtain⟨S1,g1,g2⟩:=stepS k Sm h2 h3
     have hlook: ∀t∈o.looksAt ops,eB ops S SV L t=SV.env t/\lF ops.toList ((ef ops.toList).getD i []) S SV t=SV.env t:=by
      intro t ht;by_cases hex: ∃ (j:Nat) (oj:Oper),ops[j]? =some oj/\oj.dst=some t
      ·obtain⟨j,oj,hj,hdj⟩:=hex
       have hbj:j∈(ef ops.toList).getD i [] :=by
        rcases ok.look j i oj o t hj ho hdj ht with h| ⟨h,_⟩
        ·exact h
        ·rw[hst] at h;cases h
       refine⟨?_,?_⟩
       ·unfold eB;rw[if_pos (fi.2 ⟨j,oj,hj,hB j hbj,hdj⟩)]
       ·unfold lF;rw[if_pos (bN.2 ⟨j,hbj,by rw[tl.2 hj];simp[hdj]⟩)]
      ·have hno: ∀o∈ops.toList,dB o=false->o.dst≠some t:=λo' ho' _ hdo=>by
        obtain⟨j,hj,hjo⟩:=aU ho';exact hex ⟨j,o',tl.1 (by rw[<-hjo];exact aq hj),hdo⟩
       have:=f2 t hno;refine⟨?_,?_⟩
       ·unfold eB;split
        ·rfl
        ·exact this.symm
       ·unfold lF;split
        ·rfl
        ·exact this.symm
     have hopL: ∀x∈o.op.operands,opd { Sm with env:=λt=>K (eB ops S SV L t) } x=opd Sm x:=by
      intro x hx;cases x with
      |tmp t=>show K (eB ops S SV L t)=Sm.env t;rw[e1];exact congrArg K (hlook t (bR _ (cu.2 ⟨.tmp t,by simpa using hx,rfl⟩))).1
      | _=>rfl
     have hopA:K=zX-> ∀x∈o.op.operands,fI ops.toList (ef ops.toList) S SV i x=opd Sm x:=by
      intro hKi x hx;cases x with
      |tmp t=>show lF ops.toList ((ef ops.toList).getD i []) S SV t=Sm.env t;rw[e1,hKi];exact (hlook t (bR _ (cu.2 ⟨.tmp t,by simpa using hx,rfl⟩))).2
      | _=>rfl
     have pendB:M=true-> ∀j oj,ops[j]? =some oj->dB oj=false->L.getD j false=false->jk (iH P) ops.toList (ef ops.toList) S SV j i oj o=true:=by intro hMt j oj hj hs hu;refine hloose hMt j i oj o hj ho hst hs (λhb=> ?_);rw[hB j hb] at hu;cases hu
     have pendR:M=false-> ∀j oj,ops[j]? =some oj->dB oj=false->L.getD j false=false->iQ ops.toList (ef ops.toList) S SV j oj=true:=by intro hMf j oj hj hs hu;refine hlooseR hMf j i oj o hj ho hst hs (λhb=> ?_);rw[hB j hb] at hu;cases hu
     obtain⟨t,xa,xv,hop⟩: ∃t xa xv,o.op= .store t xa xv:=by
      unfold dB at hst;split at hst
      ·rename_i t xa xv hop;exact⟨t,xa,xv,hop⟩
      ·cases hst
     have hma:xa∈o.op.operands:=by rw[hop];simp[Op.operands]
     have hmv:xv∈o.op.operands:=by rw[hop];simp[Op.operands]
     have hstore:store P Sm t (opd Sm xa) (opd Sm xv)=some S1:=by unfold one at g1;rw[hdn] at g1;simp only[step,hop,ah,aj] at g1;obtain⟨⟨v,S2⟩,⟨S3,g3,g4⟩,g5⟩:=g1;simp only[au] at g4;simp only[St.put,af] at g5;rw[g3,g4.2,g5]
     have henv:eB ops S SV (L.setIfInBounds i true)=eB ops S SV L:=by
      funext t
      rw[ij hiL ho,hdn];simp
     rw[if_pos hw]
     have hheavy': ∀j oj,ops[j]? =some oj->dB oj=false->gr oj=true->(L.setIfInBounds i true).getD j false=true:=by
      intro j oj hj hs hn;rw[hset];split
      ·rfl
      ·exact hheavy j oj hj hs hn
     cases hMM:M with
     |true=>
      have hKi:=hK1 hMM;subst hKi
      have hsimp:lS (iH P) t (opd Sm xa)=true:=by have:=pendB hMM jp ojp hjp hsp hup;unfold jk at this;rw[hop] at this;simp only[ak] at this;rw[<-hopA rfl xa hma];exact this.1
      obtain⟨q1,q2,q3,q4⟩:=rf hsimp hstore
      have g1':one D P { Sm with env:=λt=>zX (eB ops S SV L t) } o=some { S1 with env:=λt=>zX (eB ops S SV L t) } :=by unfold one;rw[hdn];simp only[step,hop];rw[hopL xa hma,hopL xv hmv,q3];rfl
      refine .inl (jR hD h4 (ok.ok i o ho) g1' (λbt' a' w' h'=>next a' w' (.inr (.inl ⟨bt',i+1,S1,zX,hheavy',iff' k h2,g2,q1.trans e1,q2.trans e2,λj oj t' x n hj hl hu=> ?_,by rw[henv];exact h',λ_=>rfl,λ_ _=>rfl,λhf=>absurd (hMM.symm.trans hf) (by decide)⟩))));rw[hset] at hu;split at hu
      ·cases hu
      ·have hsj:dB oj=false:=by unfold dB;rw[hl]
       have hlb:=pendB hMM j oj hj hsj hu;unfold jk at hlb;rw[hop,hl] at hlb;simp only[ak] at hlb;rw[hopA rfl xa hma] at hlb;rw[q4 _ n hlb.2];exact hmem j oj t' x n hj hl hu
     |false=>
      obtain⟨K',k1,k2,k3,k4⟩:=pE hstore;have k4':store P { Sm with env:=λt=>K (eB ops S SV L t) } t (opd Sm xa) (opd Sm xv)=some { S1 with env:=λt=>K' (K (eB ops S SV L t)) } :=k4 (λt=>K (eB ops S SV L t))
      have g1':one D P { Sm with env:=λt=>K (eB ops S SV L t) } o=some { S1 with env:=λt=>K' (K (eB ops S SV L t)) } :=by unfold one;rw[hdn];simp only[step,hop];rw[hopL xa hma,hopL xv hmv,k4'];rfl
      refine .inl (jR hD h4 (ok.ok i o ho) g1' (λbt' a' w' h'=>next a' w' (.inr (.inl ⟨bt',i+1,S1,λv=>K' (K v),hheavy',iff' k h2,g2,by rw[k2,e1],k3.trans e2,λj oj t' x n hj hl hu=> ?_,by rw[henv];exact h',λhf=>absurd (hMM.symm.trans hf) (by decide),λv hv=>by show K' (K v)=v;rw[hK2 v hv,k1 v hv],λ_ j oj hj hs hu=> ?_⟩))))
      ·rw[hset] at hu;split at hu
       ·cases hu
       ·have hsj:dB oj=false:=by unfold dB;rw[hl]
        have hlb:=pendR hMM j oj hj hsj hu;unfold iQ at hlb;rw[hl] at hlb;simp at hlb
      ·rw[hset] at hu;split at hu
       ·cases hu
       ·exact pendR hMM j oj hj hs hu
   |false=>
    obtain⟨env,b,m,g0,g1,g2,g3,g4,g5,g6,g7,gB⟩:=f3 i o (tl.2 ho) hst;have him:i<ms.length:=by rw[hlen];exact hin
    have hagr:=agreeV i o env ho g1 g2
    have agree: ∀t,t∈o.looksAt ops->eB ops S SV L t=env t:=by
     intro t ht;rw[hagr t ht];unfold lF;split
     ·rename_i hany;obtain⟨j,hj,hjd⟩:=bN.1 hany;cases hoj:ops.toList[j]? with
      |none=>rw[hoj] at hjd;simp at hjd
      |some oj=>
       rw[hoj] at hjd;have hdj:oj.dst=some t:=by simpa using hjd
       unfold eB;rw[if_pos (fi.2 ⟨j,oj,tl.1 hoj,hB j hj,hdj⟩)]
     ·rename_i hany;unfold eB;split
      ·rename_i hdn;exfalso;obtain⟨j,oj,hj,hlj,hdj⟩:=fi.1 hdn;rcases ok.look j i oj o t hj ho hdj ht with h| ⟨_,h|h⟩
       ·exact hany (bN.2 ⟨j,h,by rw[tl.2 hj];simp[hdj]⟩)
       ·rw[h,hun] at hlj;cases hlj
       ·have:=hcl j (aD.1 hj).1 hlj i h;rw[hun] at this;cases this
      ·rfl
    have hopX: ∀x∈o.op.operands,opd { S with env:=env,gh:=jQ S.gh (ms.take i),ng:=m.b } x=fI ops.toList (ef ops.toList) S SV i x:=opdV i o _ ho hagr
    have hwantsX: ∀X:St,X.env=eB ops S SV L->gz X ops o=some b:=by
     intro X hX;rw[<-g3];unfold gz;cases hg:o.guard with
     |none=>rfl
     |some gw=>
      obtain⟨j,want⟩:=gw;simp only;cases hdj: (ops[j]?).bind (·.dst) with
      |none=>rfl
      |some d=>simp only;rw[hX,agree d (List.mem_append_right _ (by simp[hg,hdj]))]
    have htree: ∀r,(∀j∈iU ms r,j=i\/i∈(ef ops.toList).getD j [])/\(r<S.ng\/ ∃c,gO ms r=some c/\c∈(ef ops.toList).getD i [])->nj S ms L r=jQ S.gh (ms.take i) r:=by
     intro r hr;obtain⟨htk,hr⟩:=hr;have tk:=told i (by omega) r
     have hnt:fh ms L r=false:=by
      cases hx:fh ms L r with
      |false=>rfl
      |true=>
       obtain⟨j,m',p1,p2,p3⟩:=fe.1 hx;rcases htk j (kV p1 p3) with e|e
       ·rw[e,hun] at p2;cases p2
       ·have:=hcl j (by rw[<-hlen];exact (ai.1 p1).1) p2 i e;rw[hun] at this;cases this
     have hnot: ∀ (j:Nat) (m':eP),ms[j]? =some m'->j<i->r∉m'.cons:=by
      intro j m' p1 hji p3;rcases htk j (kV p1 p3) with e|e
      ·omega
      ·have:=ok.lt j i (by rw[<-hlen];exact (ai.1 p1).1) e;omega
     unfold nj;by_cases hlt:r<S.ng
     ·rw[if_pos hlt,hnt];exact ((tk.1 hlt).1 hnot).symm
     ·rw[if_neg hlt];rcases hr with hr| ⟨c,hmk,hcb⟩
      ·omega
      ·rw[hmk];simp only;have hci:=ok.lt i c hin hcb;rw[hB c hcb,hnt];simp only[Bool.not_false,df,if_true];exact ((tk.2.2 c (by omega) hmk).2.1 hci (λj m' p1 _ hji p3=>hnot j m' p1 hji p3)).symm
    have envNext: ∀v,(∀d,o.dst=some d->SV.env d=v)-> ∀ (X:St),X.env=eB ops S SV L->X.nt=S.nt->X.put o.dst v=some { X with env:=eB ops S SV (L.setIfInBounds i true) } :=by
     intro v hv X hX hXn;cases hdo:o.dst with
     |none=>
      simp only[St.put,af]
      have :eB ops S SV (L.setIfInBounds i true)=X.env:=by
       funext t
       rw[ij hiL ho,hdo,hX];simp
      rw[this]
     |some d=>
      simp only[St.put];rw[if_pos (by rw[hXn];exact g4 d hdo)]
      congr 2
      funext t
      rw[ij hiL ho,hdo,hX];unfold dQ;by_cases ht:t=d
      ·subst ht;simp[hv t hdo]
      ·have : ¬ (some d=some t):=by simpa usingλe=>ht e.symm
       rw[if_neg ht,if_neg this]
    by_cases hph: ∃bt k Sm,∃K:AV->AV,(∀i o,ops[i]? =some o->dB o=false->gr o=true->L.getD i false=true)/\(∀i o,ops[i]? =some o->dB o=true->(L.getD i false=true↔i<k))/\pp D P ops (ops.toList.drop k) Sm=some S'/\Sm.env=(λt=>K (SV.env t))/\Sm.nt=S.nt/\
      (∀i o t x n,ops[i]? =some o->o.op= .load t x->L.getD i false=false->dR Sm n (fI ops.toList (ef ops.toList) S SV i x)=dR SV n (fI ops.toList (ef ops.toList) S SV i x))/\Lv w0 W btI SI bt { Sm with env:=λt=>K (eB ops S SV L t) } a w/\(M=true->K=zX)/\(∀v,oI v=true->K v=v)/\(M=false-> ∀i oi,ops[i]? =some oi->dB oi=false->L.getD i false=false->iQ ops.toList (ef ops.toList) S SV i oi=true)
    ·obtain⟨bt,k,Sm,K,hv,h2s,h3,e1,e2,hmem,h4,hK1,hK2,hK3⟩:=hph
     have hhv:gr o=false:=by
      cases hx:gr o with
      |false=>rfl
      |true=>have:=hv i o ho hst hx;rw[hun] at this;cases this
     have hnn:eA o=false:=by unfold gr at hhv;simp only[cP] at hhv;exact hhv.1
     have hbo:dY o=false:=by unfold gr at hhv;simp only[cP] at hhv;exact hhv.2
     have hroot: ∀x∈o.op.operands,K (fI ops.toList (ef ops.toList) S SV i x)=fI ops.toList (ef ops.toList) S SV i x:=by
      intro x hx;cases hMM:M with
      |true=>rw[hK1 hMM]
      |false=>have:=hK3 hMM i o ho hst hun;unfold iQ at this;simp only[ak] at this;exact hK2 _ (ay.1 this.1.2 x (by simpa using hx))
     have hrootD: ∀d,o.dst=some d->K (SV.env d)=SV.env d:=by
      intro d hdd;cases hMM:M with
      |true=>rw[hK1 hMM]
      |false=>have:=hK3 hMM i o ho hst hun;unfold iQ at this;rw[hdd] at this;simp only[ak] at this;exact hK2 _ this.2
     have hwantsK:gz { Sm with env:=λt=>K (eB ops S SV L t) } ops o=some b:=by
      cases hMM:M with
      |true=>have hKi:=hK1 hMM;subst hKi;exact hwantsX { Sm with env:=λt=>zX (eB ops S SV L t) } rfl
      |false=>have:=hK3 hMM i o ho hst hun;unfold iQ at this;simp only[ak,cD] at this;rw[<-g3];unfold gz;rw[this.1.1.1]
     have hw:=gP h4.er hwantsK
     have gZ: ∀v,(∀d,o.dst=some d->SV.env d=v)->({ Sm with env:=λt=>K (eB ops S SV L t) }:St).put o.dst v=some { Sm with env:=λt=>K (eB ops S SV (L.setIfInBounds i true) t) } :=by
      intro v hv;cases hdo:o.dst with
      |none=>
       simp only[St.put,af]
       have :eB ops S SV (L.setIfInBounds i true)=eB ops S SV L:=by
        funext t
        rw[ij hiL ho,hdo];simp
       rw[this]
      |some d=>
       simp only[St.put];rw[if_pos (by rw[show ({ Sm with env:=λt=>K (eB ops S SV L t) }:St).nt=S.nt from e2];exact g4 d hdo)]
       congr 2
       funext t
       rw[ij hiL ho,hdo];unfold dQ;by_cases ht:t=d
       ·subst ht;have h1:=hv t hdo;have h2:=hrootD t hdo;rw[if_pos rfl,if_pos rfl,h2,h1]
       ·have : ¬ (some d=some t):=by simpa usingλe=>ht e.symm
        rw[if_neg ht,if_neg this]
     have next2: ∀a',Lv w0 W btI SI bt { Sm with env:=λt=>K (eB ops S SV (L.setIfInBounds i true) t) } a' w->wpAny P .any ops Q fuel (L.setIfInBounds i true) a' w:=by
      intro a' h';refine next a' w (.inr (.inl ⟨bt,k,Sm,K,λj oj hj hs hn=> ?_,λj oj hj hs=> ?_,h3,e1,e2,λj oj t' x n hj hl hu=> ?_,h',hK1,hK2,λhf j oj hj hs hu=> ?_⟩))
      ·rw[hset];split
       ·rfl
       ·exact hv j oj hj hs hn
      ·rw[hset];split
       ·rename_i hji;subst hji;rw[ho] at hj;simp only[af] at hj;rw[<-hj,hst] at hs;cases hs
       ·exact h2s j oj hj hs
      ·rw[hset] at hu;split at hu
       ·cases hu
       ·exact hmem j oj t' x n hj hl hu
      ·rw[hset] at hu;split at hu
       ·cases hu
       ·exact hK3 hf j oj hj hs hu
     cases hbb:b with
     |true=>
      rw[hw,hbb,if_pos rfl];obtain⟨v,k1,k2,k3,k4⟩:=g6 hbb hnn hbo
      have k1':dD D P { Sm with env:=λt=>K (eB ops S SV L t) } o=some v:=by
       rw[<-k1];refine lx (ok.ok i o ho) hnn (λx hx=> ?_) (λt xa hta=> ?_)
       ·have h5:=hopX x hx;have h6:=hroot x hx;cases x with
        |tmp t=>have h7:=agree t (bR _ (cu.2 ⟨.tmp t,by simpa using hx,rfl⟩));show K (eB ops S SV L t)=env t;rw[h7];have h5:env t=fI ops.toList (ef ops.toList) S SV i (.tmp t):=h5;rw[h5,h6]
        | _=>rfl
       ·have hxa:xa∈o.op.operands:=by rw[hta];simp[Op.operands]
        rw[hopX xa hxa,iG,hmem i o t xa _ ho hta hun]
        have hal:gf { S with env:=env,gh:=jQ S.gh (ms.take i),ng:=m.b } { ({ S with env:=env,gh:=jQ S.gh (ms.take i),ng:=m.b }:St) with gh:=SV.gh,ng:=SV.ng } (fI ops.toList (ef ops.toList) S SV i xa):=by intro r hr;have:=htree r (hsay i o xa r ho hst hxa hr);rw[ghFull L (toN hv)] at this;exact this
        rw[<-pm hal];have hS':=hSV env;rw[<-iG (S:=SV) env,hS']
      have hnf:im o=false:=by
       cases hx:im o with
       |false=>rfl
       |true=>
        unfold im at hx;split at hx
        ·rename_i hop;simp[eA,hop] at hnn
        ·cases hx
      obtain⟨u,g8,g9⟩:=mF h4.inv h4.er (ok.ok i o ho) hnf k1';left;unfold Oper.wp;rw[g8,Oper.upon_value];exact next2 _ (h4.put g9 (gZ v k4))
     |false=>obtain⟨k2,k3,k4⟩:=g7 hbb;rw[hw,hbb,if_neg (by simp)];exact next2 _ (h4.put nI (gZ (.tup []) k4))
    obtain⟨bt,h1,h2,hκ⟩: ∃bt,(∀i o,ops[i]? =some o->dB o=true->L.getD i false=false)/\Lv w0 W btI SI bt (mB ops S SV ms L) a w/\ ∀ (p:dM) (c:Nat),S.ng<=p.r->gO ms p.r=some c->L.getD c false=false->bt.κ p=0:=by
     rcases hsim with hsim|hsim| ⟨bt,k,Sm,h1,_⟩
     ·exact hsim
     ·exact absurd hsim hph
     ·have:=h1 i o ho hst;rw[hun] at this;cases this
    have hw:=gP h2.er (hwantsX (mB ops S SV ms L) rfl)
    have halike: ∀x∈o.op.operands,gf { S with env:=env,gh:=jQ S.gh (ms.take i),ng:=m.b } { ({ S with env:=env,gh:=jQ S.gh (ms.take i),ng:=m.b }:St) with gh:=nj S ms L,ng:=SV.ng } (opd { S with env:=env,gh:=jQ S.gh (ms.take i),ng:=m.b } x):=by intro x hx r hr;rw[hopX x hx] at hr;exact htree r (hsay i o x r ho hst hx hr)
    have hbxA: ∀k,rX S ms k=true-> ∀cs,({ S with env:=env,gh:=jQ S.gh (ms.take i),ng:=m.b }:St).bx k=some cs-> ∀c∈cs,gf { S with env:=env,gh:=jQ S.gh (ms.take i),ng:=m.b } { ({ S with env:=env,gh:=jQ S.gh (ms.take i),ng:=m.b }:St) with gh:=nj S ms L,ng:=SV.ng } c:=by intro k hfk cs hk c hcm r hr;have hk:S.bx k=some cs:=hk;refine htree r ⟨λj hj=> ?_,.inl (hbx k cs hk c hcm r hr)⟩;unfold rX at hfk;rw[hk] at hfk;have h3:=ay.1 (ay.1 hfk c hcm) r hr;rw[dh] at h3;rw[h3] at hj;cases hj
    have hops: ∀x∈o.op.operands,opd (mB ops S SV ms L) x=opd { ({ S with env:=env,gh:=jQ S.gh (ms.take i),ng:=m.b }:St) with gh:=nj S ms L,ng:=SV.ng } x:=by
     intro x hx;cases x with
     |tmp t=>exact agree t (bR _ (cu.2 ⟨.tmp t,by simpa using hx,rfl⟩))
     | _=>rfl
    have nostore: ∀j oj,ops[j]? =some oj->dB oj=true->(L.setIfInBounds i true).getD j false=false:=by
     intro j oj hj hs;rw[hset];split
     ·rename_i hji;subst hji;rw[ho] at hj;simp only[af] at hj;rw[<-hj,hst] at hs;cases hs
     ·exact h1 j oj hj hs
    have ghNext: ∀r,nj S ms (L.setIfInBounds i true) r=if m.b<=r/\r<m.b+m.adds.length then m.adds[r-m.b]? else if m.cons.contains r then none else nj S ms L r:=by
     intro r;by_cases hin':m.b<=r/\r<m.b+m.adds.length
     ·rw[if_pos hin'];have hmk:gO ms r=some i:=(eX hd).2 ⟨m,g0,hin'⟩;unfold nj;rw[if_neg (by have:=hb i m g0;omega),hmk];simp only[hset,if_true]
      have hnt:fh ms (L.setIfInBounds i true) r=false:=by
       cases hx:fh ms (L.setIfInBounds i true) r with
       |false=>rfl
       |true=>
        obtain⟨j,m',p1,p2,p3⟩:=fe.1 hx;obtain⟨c,q1,q2⟩:=(hcons j m' r p1 p3).1.resolve_left (by have:=hb i m g0;omega);rw[hmk] at q1;simp only[af] at q1;subst q1;have hjn:j<ops.size:=by rw[<-hlen];exact (ai.1 p1).1
        rw[hset] at p2;split at p2
        ·rename_i hji;subst hji;have:=ok.lt j j hjn q2;omega
        ·have:=hcl j hjn p2 i q2;rw[hun] at this;cases this
      rw[hnt,g0];rfl
     ·rw[if_neg hin']
      have htk:fh ms (L.setIfInBounds i true) r=(fh ms L r||m.cons.contains r):=by
       rw[bJ,bq,fe,fe];constructor
       ·rintro⟨j,m',p1,p2,p3⟩
        rw[hset] at p2;split at p2
        ·rename_i hji;subst hji;rw[g0] at p1;simp only[af] at p1;subst p1;exact .inr (by simpa using p3)
        ·exact .inl ⟨j,m',p1,p2,p3⟩
       ·rintro (⟨j,m',p1,p2,p3⟩|hcon)
        ·exact⟨j,m',p1,by rw[hset];split<;>first |rfl|exact p2,p3⟩
        ·exact⟨i,m,g0,by rw[hset,if_pos rfl],by simpa using hcon⟩
      unfold nj;by_cases hlt:r<S.ng
      ·rw[if_pos hlt,if_pos hlt,htk];cases m.cons.contains r<;>cases fh ms L r<;>rfl
      ·rw[if_neg hlt,if_neg hlt];cases hmk:gO ms r with
       |none=>simp
       |some c=>
        have hci:c≠i:=by intro he;subst he;obtain⟨m',q1,q2⟩:=(eX hd).1 hmk;rw[g0] at q1;simp only[af] at q1;subst q1;exact hin' q2
        simp only;rw[hset,if_neg hci];rw[htk];cases hcon:m.cons.contains r<;>simp
    have plain:m.adds= [] ->m.cons= [] ->nj S ms (L.setIfInBounds i true)=nj S ms L:=by
     intro e1 e2
     funext r
     rw[ghNext r,e1,e2];simp;intro h1 h2;omega
    have κNext: ∀ (bt2:Bt),(∀p:dM,S.ng<=p.r->p.r<SV.ng-> ¬ (m.b<=p.r/\p.r<m.b+m.adds.length)->bt2.κ p=bt.κ p)-> ∀ (p:dM) (c:Nat),S.ng<=p.r->gO ms p.r=some c->(L.setIfInBounds i true).getD c false=false->bt2.κ p=0:=by
     intro bt2 hbt p c hp hmk hun';rw[hset] at hun';split at hun'
     ·cases hun'
     ·rename_i hci;obtain⟨m',q1,q2⟩:=(eX hd).1 hmk;have:=hbN c m' q1
      rw[hbt p hp (by omega) (λhr=>hci (by have:=(eX hd).2 ⟨m,g0,hr⟩;rw[hmk] at this;simpa using this))]
      exact hκ p c hp hmk hun'
    cases hbo:dY o with
    |true=>
     obtain⟨hbb,q2,q3,q4⟩:=gB hbo;obtain⟨t,zs,hop,hz,hbz⟩:=pr5 i o (tl.2 ho) hbo;have hbz:S.bx (iP ops S i)=some (zs.map pb):=hbz;rw[hw,hbb,if_pos rfl];left;obtain⟨lb1,lb2,lb3⟩:=lab i o ho hbo
     have hfree:nU ops S L (iP ops S i)=none:=by unfold nU;rw[if_pos (fM.2 ⟨i,o,ho,hbo,hun,rfl⟩)]
     have toB: ∀v,fj (λn=>Nat.blt n Sp.nb) v=true->fj (lP S.nb (iP ops S i)) v=true:=λv hv=>l5 (λn hn=>by have :n<Sp.nb:=ax hn;exact qO (by omega) (by omega)) v hv
     have henvB: ∀t,fj (lP S.nb (iP ops S i)) (eB ops S SV L t)=true:=by
      intro t;unfold eB;split
      ·rename_i hdn;obtain⟨j,oj,hj,hlj,hdj⟩:=fi.1 hdn
       have hsj:dB oj=false:=by
        cases hx:dB oj with
        |false=>rfl
        |true=>rw[(ok.st j oj hj hx).1] at hdj;cases hdj
       cases hbj:dY oj with
       |true=>obtain⟨envj,bj,mj,_,_,_,_,_,_,_,_,gj⟩:=f3 j oj (tl.2 hj) hsj;have e:=(gj hbj).2.2.2 t hdj;rw[e];show lP S.nb (iP ops S i) (iP ops S j)=true;refine qO (lab j oj hj hbj).1 (λhe=> ?_);have:=labInj j i oj o hj ho hbj hbo he;subst this;rw[hun] at hlj;cases hlj
       |false=>refine l5 (λn hn=> ?_) _ ((hboxP j oj hj hsj hbj).2 t hdj);have :n<S.nb-ey ops.toList:=ax hn;exact qO (by omega) (by omega)
      ·rw[sev];refine toB _ ?_;have:=(h.er.2 t).boxlt;rw[h.inv.nb] at this;exact this
     have hbxB: ∀n cs,nU ops S L n=some cs-> ∀c∈cs,fj (lP S.nb (iP ops S i)) c=true:=by
      intro n cs hn c hc;unfold nU at hn;split at hn
      ·cases hn
      ·rcases bxOf n cs hn with ⟨_,hk'⟩| ⟨_,_,zs,_,_,_,rfl⟩
       ·obtain⟨_,_,arr,e,_,hsz,hcell⟩:=h.inv.bx n cs hk';obtain⟨j,hj,hjc⟩:=aU hc;obtain⟨u,_,hu,_⟩:=hcell j c (by rw[<-hjc];exact aq hj);refine toB _ ?_;have:=hu.boxlt;rw[h.inv.nb] at this;exact this
       ·obtain⟨x,_,rfl⟩:=aG.1 hc;exact xf _ _
     obtain⟨u,w',bt',r1,r2,r3,r4,r5,r6⟩:=ph h2.inv h2.er hz (m:=iP ops S i) lb1 hfree henvB hbxB
     have hmm:zs.map pb=zs.map nD:=by
      refine aE λc hc=> ?_;obtain⟨i,z,_,_,rfl,hall⟩:=fS hz;have:=ay.1 hall c hc;unfold pb;split
      ·simp[Value.oneCell'] at this
      ·rfl
     have hrun: (execOp a.eval o).run P w= .ok (.value u) w':=by obtain⟨dst,op,type,pos,after,guard⟩:=o;simp only at hop;subst hop;simp[execOp,r1]
     unfold Oper.wp;rw[hrun,Oper.upon_value]
     have hnext:dQ (nU ops S L) (iP ops S i) (some (zs.map nD))=nU ops S (L.setIfInBounds i true):=by
      funext n
      unfold dQ;split
      ·rename_i he;subst he;unfold nU;rw[if_neg,hbz,hmm];intro hwt;obtain⟨j,oj,hj,hbj,hlj,he⟩:=fM.1 hwt;have:=labInj j i oj o hj ho hbj hbo he;subst this;rw[hset,if_pos rfl] at hlj;cases hlj
      ·rename_i he;unfold nU
       have :o8 ops S (L.setIfInBounds i true) n=o8 ops S L n:=by
        rw[bJ,fM,fM];constructor
        ·rintro⟨j,oj,hj,hbj,hlj,hl⟩
         rw[hset] at hlj;split at hlj
         ·cases hlj
         ·exact⟨j,oj,hj,hbj,hlj,hl⟩
        ·rintro⟨j,oj,hj,hbj,hlj,hl⟩
         refine⟨j,oj,hj,hbj,?_,hl⟩;rw[hset,if_neg]
         ·exact hlj
         ·intro hji;subst hji;exact he hl.symm
       rw[this]
     have lv:Lv w0 W btI SI bt' { mB ops S SV ms L with bx:=nU ops S (L.setIfInBounds i true) } a w':=by refine⟨by rw[<-hnext];exact r2,r3,h2.defers,h2.fz,h2.fzng,λp hp=>by rw[r5,r6];exact h2.keep p hp,h2.gone⟩
     refine next _ _ (.inl ⟨bt',nostore,?_,κNext bt' (λ_ _ _ _=>by rw[r6])⟩)
     have:=lv.put r4 (envNext (.ptrB (iP ops S i) 0) (λd hd=>q4 d hd) { mB ops S SV ms L with bx:=nU ops S (L.setIfInBounds i true) } rfl rfl);unfold mB at this ⊢;rw[plain q2 q3];exact this
    |false=>
    have bxNext:nU ops S (L.setIfInBounds i true)=nU ops S L:=by
     funext n
     unfold nU
     have :o8 ops S (L.setIfInBounds i true) n=o8 ops S L n:=by
      rw[bJ,fM,fM];constructor
      ·rintro⟨j,oj,hj,hbj,hlj,hl⟩
       rw[hset] at hlj;split at hlj
       ·cases hlj
       ·exact⟨j,oj,hj,hbj,hlj,hl⟩
      ·rintro⟨j,oj,hj,hbj,hlj,hl⟩
       refine⟨j,oj,hj,hbj,?_,hl⟩;rw[hset,if_neg]
       ·exact hlj
       ·intro hji;subst hji;rw[ho] at hj;simp only[af] at hj;rw[<-hj,hbo] at hbj;cases hbj
     rw[this]
    have hbxF: ∀n,Nat.blt n (S.nb-ey ops.toList)=true->nU ops S L n=S.bx n:=λn hn=>oldL L n (old n (ax hn));cases hbb:b with
    |true=>
     rw[hw,hbb,if_pos rfl];cases hnn:eA o with
     |false=>
      obtain⟨v,k1,k2,k3,k4⟩:=g6 hbb hnn hbo
      have k1':dD D P (mB ops S SV ms L) o=some v:=by
       rw[<-k1,<-tu hnn halike];refine lx (ok.ok i o ho) hnn hops (λt xa hta=> ?_);have hxa:xa∈o.op.operands:=by rw[hta];simp[Op.operands]
       have hbp:=(hboxP i o ho hst hbo).1 xa hxa;rw[<-hopX xa hxa] at hbp;have e1:=tW (S:={ ({ S with env:=env,gh:=jQ S.gh (ms.take i),ng:=m.b }:St) with gh:=nj S ms L,ng:=SV.ng }) (f:=nU ops S L) hbxF (n:=P.cellsOf t) hbp;have e2:=iG (S:=mB ops S SV ms L) env (P.cellsOf t) (opd { S with env:=env,gh:=jQ S.gh (ms.take i),ng:=m.b } xa);exact e2.symm.trans e1
      have hnf:im o=false:=by
       cases hx:im o with
       |false=>rfl
       |true=>
        unfold im at hx;split at hx
        ·rename_i hop;simp[eA,hop] at hnn
        ·cases hx
      obtain⟨u,g8,g9⟩:=mF h2.inv h2.er (ok.ok i o ho) hnf k1';left;unfold Oper.wp;rw[g8,Oper.upon_value];refine next _ _ (.inl ⟨bt,nostore,?_,κNext bt (λ_ _ _ _=>rfl)⟩)
      have:=h2.put g9 (envNext v k4 (mB ops S SV ms L) rfl rfl);unfold mB at this ⊢;rw[plain k2 k3,bxNext];exact this
     |true=>
      obtain⟨v,k1,k4⟩:=g5 hbb hnn
      have k1':ed D P (mB ops S SV ms L) o=some (v,m.adds,m.cons):=by
       rw[<-k1,<-tj (q:=rX S ms) (λhfn x hx=>by rw[hopX x hx];exact hfreeP i o ho hst hbo hfn x hx) halike hbxA];rw[<-m9 (S:={ ({ S with env:=env,gh:=jQ S.gh (ms.take i),ng:=m.b }:St) with gh:=nj S ms L,ng:=SV.ng }) (env:=eB ops S SV L) hops]
       exact yF (S:={ ({ ({ S with env:=env,gh:=jQ S.gh (ms.take i),ng:=m.b }:St) with gh:=nj S ms L,ng:=SV.ng }:St) with env:=eB ops S SV L }) (f:=nU ops S L) hbxF (λx hx=>by
        have hbp:=(hboxP i o ho hst hbo).1 x hx;rw[<-hopX x hx] at hbp;have e:=hops x hx;cases x with
        |tmp t=>have e':eB ops S SV L t=env t:=e;show fj _ (eB ops S SV L t)=true;rw[e'];exact hbp
        | _=>exact hbp)
      left;refine na hD h2.inv h2.er h2.fzng (ok.ok i o ho) k1' (λbt1 u w' l1 l2 l3=> ?_);have hbase:=hb i m g0;have htop:=hbN i m g0;obtain⟨mI,mV⟩:=eh.moved (N:=SV.ng) (b:=m.b) (k:=m.adds.length) h2.inv l2 l1.inv rfl rfl rfl htop (λp hp1 hp2=>hκ p i (by omega) ((eX hd).2 ⟨m,g0,hp1,hp2⟩) hun)
      have hst2: ((mB ops S SV ms L).make ⟨(mB ops S SV ms L).ng,m.adds,m.cons⟩).moved SV.ng m.b m.adds.length= { mB ops S SV ms L with gh:=nj S ms (L.setIfInBounds i true) } :=by
       unfold St.moved St.make mB;simp only
       congr 1
       funext r
       rw[ghNext r];by_cases hr:m.b<=r/\r<m.b+m.adds.length
       ·rw[if_pos hr,if_pos hr,if_pos (by omega)]
        congr 1
        omega
       ·rw[if_neg hr,if_neg hr];by_cases hrN:r<SV.ng
        ·rw[if_pos hrN,if_neg (by omega)]
        ·rw[if_neg hrN]
         have :nj S ms L r=none:=by
          unfold nj;rw[if_neg (by omega)];cases hmk:gO ms r with
          |none=>rfl
          |some c=>obtain⟨m',q1,q2⟩:=(eX hd).1 hmk;have:=hbN c m' q1;omega
         rw[this];simp
      rw[hst2] at mI
      have hfzn:SI.fz<=S.ng:=by omega
      have lv:Lv w0 W btI SI (bt1.moved SV.ng m.b m.adds.length) { mB ops S SV ms L with gh:=nj S ms (L.setIfInBounds i true) } a w':=by
       refine⟨mI,⟨h2.er.1,λt=>mV (h2.er.2 t) (l1.er.2 t)⟩,h2.defers,h2.fz,h2.fzng,λp hp=> ?_,λr hr hnone=> ?_⟩
       ·have hnr: ¬ (m.b<=p.r/\p.r<m.b+m.adds.length):=by omega
        have hk:=h2.keep p hp
        have hlt:p.r<bt.ng:=by have:=h2.inv.ng;have e: (mB ops S SV ms L).ng=SV.ng:=rfl;omega
        simp only[Bt.moved];rw[if_neg hnr,if_neg hnr,l2.β p hlt,l2.κ p hlt];exact hk
       ·refine h2.gone r hr ?_;have hn':nj S ms (L.setIfInBounds i true) r=none:=hnone;rw[ghNext r,if_neg (by omega)] at hn';split at hn'
        ·rename_i hcon;have:=hc i m r g0 (by simpa using hcon) (by omega);omega
        ·exact hn'
      have hv:VR w' (bt1.moved SV.ng m.b m.adds.length) (shift m.b v) u:=by
       have hng1:bt1.ng=SV.ng+m.adds.length:=l1.inv.ng
       have one: ∀ {x:AV} {y:Value},VR w' bt1 (fp SV.ng x) y->VR w' (bt1.moved SV.ng m.b m.adds.length) (fp m.b x) y:=by
        intro x y hxy;cases x with
        |own p sz lo len=>
         simp only[fp] at hxy ⊢;cases hxy with
         |own hp hcp hk ha=>
          have hp':p.r+SV.ng<bt1.ng:=hp;have hr:m.b<=p.r+m.b/\p.r+m.b<m.b+m.adds.length:=by omega
          have e1: (bt1.moved SV.ng m.b m.adds.length).κ ⟨p.r+m.b,p.l⟩=bt1.κ ⟨p.r+SV.ng,p.l⟩:=by simp only[Bt.moved];rw[if_pos hr,bM,bX]
          have e2: (bt1.moved SV.ng m.b m.adds.length).β ⟨p.r+m.b,p.l⟩=bt1.β ⟨p.r+SV.ng,p.l⟩:=by simp only[Bt.moved];rw[if_pos hr,bM,bX]
          exact .own (by show p.r+m.b<SV.ng;omega) hcp (by rw[e1];exact hk) (by rw[e2];exact ha)
        |sc x=>simp only[fp] at hxy ⊢;cases hxy with |sc h=>exact .sc h
        |ptrT p sz i j=>
         simp only[fp] at hxy ⊢;cases hxy with
         |ptrT _ _ _ hp hk=>
          have hp':p.r+SV.ng<bt1.ng:=hp;have hr:m.b<=p.r+m.b/\p.r+m.b<m.b+m.adds.length:=by omega
          have e1: (bt1.moved SV.ng m.b m.adds.length).κ ⟨p.r+m.b,p.l⟩=bt1.κ ⟨p.r+SV.ng,p.l⟩:=by simp only[Bt.moved];rw[if_pos hr,bM,bX]
          have e2: (bt1.moved SV.ng m.b m.adds.length).β ⟨p.r+m.b,p.l⟩=bt1.β ⟨p.r+SV.ng,p.l⟩:=by simp only[Bt.moved];rw[if_pos hr,bM,bX]
          rw[<-e2];exact .ptrT sz i j (by show p.r+m.b<SV.ng;omega) (by rw[e1];exact hk)
        | _=>exact .dead _
       have two: ∀ {x:AV} {y:Value},VR w' bt1 (ff SV.ng x) y->VR w' (bt1.moved SV.ng m.b m.adds.length) (ff m.b x) y:=by
        intro x y hxy;cases x with
        |agg cs=>
         simp only[ff] at hxy ⊢;cases hxy with
         |agg hl' ho' hr=>refine .agg (by simpa using hl') ho' (λk c u h1 h2=> ?_);rw[aw] at h1;simp only[aj] at h1;obtain⟨c',e1,rfl⟩:=h1;exact one (hr k (fp SV.ng c') u (by rw[aw,e1];rfl) h2)
        | _=>simp only[ff] at hxy ⊢;exact one hxy
       cases v with
       |tup vs=>
        simp only[shift] at l3 ⊢;have l3':VR w' bt1 (.tup (vs.map (ff SV.ng))) u:=l3;cases l3' with
        |tup hl' hr=>refine .tup (by simpa using hl') (λk c u h1 h2=> ?_);rw[aw] at h1;simp only[aj] at h1;obtain⟨c',e1,rfl⟩:=h1;exact two (hr k (ff SV.ng c') u (by rw[aw,e1];rfl) h2)
       | _=>simp only[shift] at l3 ⊢;exact two l3
      refine next _ _ (.inl ⟨bt1.moved SV.ng m.b m.adds.length,nostore,?_,κNext _ (λp hp1 hp2 hp3=> ?_)⟩)
      ·have:=lv.put hv (envNext _ k4 { mB ops S SV ms L with gh:=nj S ms (L.setIfInBounds i true) } rfl rfl);unfold mB at this ⊢;rw[bxNext];exact this
      ·simp only[Bt.moved];rw[if_neg hp3]
       exact l2.κ p (by have:=h2.inv.ng;have e: (mB ops S SV ms L).ng=SV.ng:=rfl;omega)
    |false=>
     obtain⟨k2,k3,k4⟩:=g7 hbb;rw[hw,hbb,if_neg (by simp)];refine next _ _ (.inl ⟨bt,nostore,?_,κNext bt (λ_ _ _ _=>rfl)⟩)
     have:=h2.put nI (envNext (.tup []) k4 (mB ops S SV ms L) rfl rfl);unfold mB at this ⊢;rw[plain k2 k3,bxNext];exact this
 have start:AL w0 W btI SI D P ops S SV S' ms M (Array.replicate ops.size false) a { w with drawn:=w.drawn+1 } :=by
  have hno: ∀i,(Array.replicate ops.size false).getD i false=false:=by intro i;rw[aN,Array.getElem?_replicate];split<;>rfl
  refine .inl ⟨({ bt with nb:=S.nb }:Bt).widen S.ng SV.ng,λi o _ _=>hno i,?_,λp c hp _ _=> ?_⟩
  ·have e1:eB ops S SV (Array.replicate ops.size false)=S.env:=by
    funext t
    unfold eB;rw[if_neg];intro hdn;obtain⟨i,o,hi,hl,_⟩:=fi.1 hdn;rw[hno] at hl;cases hl
   have e2:nj S ms (Array.replicate ops.size false)=S.gh:=by
    funext r
    have hnt:fh ms (Array.replicate ops.size false) r=false:=by
     cases hx:fh ms (Array.replicate ops.size false) r with
     |false=>rfl
     |true=>obtain⟨j,m',p1,p2,p3⟩:=fe.1 hx;rw[hno] at p2;cases p2
    unfold nj;rw[hnt];split
    ·rfl
    ·rename_i hr
     have :S.gh r=none:=by
      cases hx:S.gh r with
      |none=>rfl
      |some t=>exact absurd (hgh r t hx) hr
     rw[this];split
     ·rw[hno];rfl
     ·rfl
   have e3:nU ops S (Array.replicate ops.size false)=Sp.bx:=by
    funext n
    by_cases hn:n<Sp.nb
    ·rw[oldL _ n hn,pr3 n hn]
    ·have hsp:Sp.bx n=none:=by
      cases hx:Sp.bx n with
      |none=>rfl
      |some cs=>exact absurd (h.inv.bx n cs hx).1 hn
     rw[hsp];unfold nU;split
     ·rfl
     ·rename_i hw;cases hx:S.bx n with
      |none=>rfl
      |some cs=>
       exfalso;rcases bxOf n cs hx with ⟨h1,_⟩| ⟨k,o,_,q1,q2,q3,_⟩
       ·exact hn h1
       ·exact hw (fM.2 ⟨k,o,q1,q2,hno k,q3.symm⟩)
   have e4:mB ops S SV ms (Array.replicate ops.size false)= { ({ Sp with nb:=S.nb }:St) with ng:=SV.ng } :=by
    unfold mB;rw[e1,e2,e3]
    conv=>lhs;rw[pr1]
   rw[e4];have hw:=((h.widenB (N:=S.nb) (by omega)).widen (N:=SV.ng) (by show Sp.ng<=SV.ng;rw[<-sng];exact fN)).drawn (w.drawn+1);rw[sng];exact hw
  ·simp only[Bt.widen];rw[if_neg (by omega)]
 refine wp_region_any hm (main ops.size _ (List.range ops.size) a _ (by simp) List.nodup_range (λi=> ?_) (by simp) (λj hj hjt=> ?_) start)
 ·simp only[bw];constructor
  ·intro hi;exact⟨hi,by simp[aN,hi]⟩
  ·exactλh=>h.1
 ·simp[aN,hj] at hjt
end
end
end Go.Proofs.YtkghndikalnipaaGreat.En
