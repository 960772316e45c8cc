import Derived.Test.YtjnleglhcppgcaaGreatZX7
namespace Go.Proofs.YtjnleglhcppgcaaGreat.En
section
open Go
theorem Gl (X:St) (p:fj) (i:Nat): ∀ (ss:List Nat) (vs:List AV) (j:Nat),ss.all (· ==0)=true->ga X p i j ss vs=some X:=by
 intro ss
 induction ss with
 |nil=>intro vs j _; cases vs<;>rfl
 |cons s ss ih=>
  intro vs j h;simp only[c8,aq,beq_iff_eq] at h;cases vs with
  |nil=>rfl
  |cons v vs=>simp only[ga];rw[if_pos h.1];exact ih vs (j+1) h.2
def xK (no:Nat) (ss:List Nat):Nat->List V->St->Option St
 | _,[],X=>some X
 |k,v::vs,X=>(ga X ⟨no,[]⟩ k 0 ss v.av.cells).bind (xK no ss (k+1) vs)
theorem OO (el:Ty) (no N:Nat): ∀ (vs:List V) (k:Nat) (S S1:TS) (l:List el.D) (R:List (List T)),S.ok->S.gh.length=no->(∀v∈vs,v.ok S.gh)->vg el S vs=some (l,S1)->R.length=k+vs.length->
  (∀ (m:Nat) (v:V),vs[m]? =some v->R[k+m]? =some (v.av.cells.map T.ofSc))->
  Sy S S1 no/\l.length=vs.length/\(∀v∈vs,v.av.cells.length=el.width/\v.av.isDead=false)/\xK no el.shs k vs (S.with no N el.width R)=some (S1.with no N el.width (R.take k++l.map el.row)):=by
 intro vs
 induction vs with
 |nil=>intro k S S1 l R hS hno hvs h hl ho;simp only[vg,af,an] at h;obtain⟨rfl,rfl⟩:=h;refine⟨⟨hS,jV.refl _,rfl,rfl,rfl,rfl⟩,rfl,(fun v hv=>by cases hv),?_⟩;simp only[xK,ct,bH];rw[bh (by simp at hl; omega)]
 |cons v vs ih=>
  intro k S S1 l R hS hno hvs h hl ho;cases v with
  |tup x=>simp[vg] at h
  |v x=>
   simp only[vg] at h;split at h
   ·rename_i ws S2 hw;split at h
    ·rename_i y ys S3 hy hys;simp only[af,an] at h;obtain⟨rfl,rfl⟩:=h;have hv:=hvs _ aG;have hrow:=ho 0 _ rfl;rw[cy] at hrow;have hk:k<R.length:=(ai.1 hrow).1
     have hcok: ∀c∈x.cells,c.ok S.gh:=by
      cases x with
      |cl c=>intro c' hc'; simp only[V1.cells,az] at hc'; subst hc'; exact hv
      |agg cs=>exact hv
      |fn f cs=>intro c' hc'; simp only[V1.cells,az] at hc'; subst hc'; trivial
     rw[hno] at hw
     have hx:x≠ .cl .dead/\(∀f cs,x≠ .fn f cs):=by
      have nd: ∀ (cs:List Cl),cs= [.dead] ->sJ no 0 S el.csh cs=some (ws,S2)->False:=by
       intro cs hcs h;subst hcs;cases hc:el.csh with
       |nil=>rw[hc] at h; simp[sJ] at h
       |cons e es=>rw[hc] at h;cases e<;>simp[sJ,kC] at h
      constructor
      ·intro e; subst e; exact nd _ rfl hw
      ·intro f cs e; subst e; exact nd _ rfl hw
     obtain⟨hc1,hc2⟩:=E7 hx.1 hx.2
     obtain⟨m1,m2,m3,m4,m5⟩:=E6 no k N el.width el.csh x.cells 0 S S2 ws R ((V.v x).av.cells.map T.ofSc) hS hcok hw hrow (by rw[hc1]; simp) (fun m c hm=>by rw[hc1,aU,ar,ar,hm];rfl)
     have hwid:x.cells.length=el.width:=by
      rw[<-m2];cases el with
      |st n=>cases n<;>rfl
      | _=>rfl
     obtain⟨g1,g2,g3,g4⟩:=ih (k+1) S2 S3 ys (R.set k (el.row y)) m1.ok (m1.len.trans hno) (fun v hv=>V.ok_mono m1.gle (hvs v (aF _ hv))) hys (by simp at hl ⊢; omega) (fun m v hm=>by rw[cJ (by omega),show k+1+m=k+(m+1) by omega];exact ho (m+1) v (by simpa using hm))
     refine⟨⟨g1.ok,m1.gle.trans g1.gle,g1.len.trans m1.len,g1.fz.trans m1.fz,g1.nt.trans m1.nt,g1.no.trans m1.no⟩,by simp[g2],fun v hv=> ?_,?_⟩
     ·rcases aW.1 hv with rfl|hv
      ·exact⟨by rw[hc1]; simpa using hwid,hc2⟩
      ·exact g3 v hv
     ·simp only[xK];have e1:el.shs=el.csh.map E5:=rfl;rw[hc1,e1,m5];simp only[ae]
      have e2: ((V.v x).av.cells.map T.ofSc).take 0++ws.map C.tree++((V.v x).av.cells.map T.ofSc).drop (0+x.cells.length)=el.row y:=by rw[hc1,dG,bo,cu (by simp),bH,el.row_flat,Ty.unflat_some _ _ _ hy]
      rw[e2,<-e1,g4]
      congr 2
      have e3: (R.set k (el.row y)).take (k+1)=R.take k++ [el.row y] :=by
       rw[List.take_set,bK,ah hk,eb];have hlen: (R.take k).length=k:=by simp; omega
       rw[dP _ _ (by omega),hlen,dE];rfl
      rw[e3];simp
    ·cases h
   ·cases h
theorem KE (t:Ty):t.zcs.map C.tree=List.zipWith zc t.shs t.zvs:=by
 cases t with
 |st n=>cases n<;>rfl
 | _=>rfl
theorem IA: ∀ {a b:List Nat},Vc a b=true->a=b
 | [],[],_=>rfl
 |a::l,b::m,h=>by
  simp only[Vc] at h;cases hb:Nat.beq a b with
  |true=>rw[hb] at h;rw[au hb,IA h]
  |false=>rw[hb] at h; cases h
 | [],_::_,h=>by cases h
 | _::_,[],h=>by cases h
theorem KF (no:Nat) (ss:List Nat) (e:Operand->AV): ∀ (ps:List (Nat×Operand)) (vs:List V) (k:Nat) (X:St),ps.map (·.1)=List.range' k ps.length->ps.map (fun x=>e x.2)=vs.map V.av->
  ps.foldlM (fun S' x=>ga S' ⟨no,[]⟩ x.1 0 ss (e x.2).cells) X=xK no ss k vs X:=by
 intro ps
 induction ps with
 |nil=>
  intro vs k X _ h;cases vs with
  |nil=>rfl
  |cons v vs=>cases h
 |cons p ps ih=>
  intro vs k X h1 h2;cases vs with
  |nil=>cases h2
  |cons v vs=>
   simp only[aZ,bM] at h2;simp only[aZ,bk,cE,bM] at h1;simp only[List.foldlM_cons,xK,h1.1,h2.1];cases ga X ⟨no,[]⟩ k 0 ss v.av.cells with
   |none=>rfl
   |some X'=>exact ih vs (k+1) X' h1.2 h2.2
section
variable {ρ:Type} {P:Program} {Θ:qG} {S:TS} {Y:BQ}
theorem Sz {a:AV} {n:Int} (h:Ec a=some n): ∃k,a= .sc (.int k n):=by
 unfold Ec at h;split at h
 ·rename_i k m;simp only[af] at h;subst h;exact⟨k,rfl⟩
 ·cases h
theorem SA (c:Cl):HW c.av=Mo c:=by
 cases c with
 |c x=>cases x<;>rfl
 | _=>rfl
theorem IB (cs:List Cl): (cs.map Cl.av).any HW=cs.any Mo:=by
 rw[List.any_map]
 congr 1
 funext c
 exact SA c
theorem C3 (c:Cl): (V.v (.cl c)).av.cells= [c.av] :=by
 cases c with
 |c x=>cases x<;>rfl
 | _=>rfl
theorem Qx {v:V} (h:ES v=true):v.av.cells.any HW=true:=by
 cases v with
 |tup l=>cases h
 |v x=>
  cases x with
  |cl c=>rw[C3];have h: [c].any Mo=true:=h;rw[<-IB] at h;exact h
  |agg cs=>have h:cs.any Mo=true:=h;rw[<-IB] at h;exact h
  |fn f cs=>cases h
theorem Qy {v:V} (h:v.av.cells.any HW=true):ES v=true:=by
 cases v with
 |tup l=>cases h
 |v x=>
  cases x with
  |cl c=>rw[C3] at h;show [c].any Mo=true;rw[<-IB];exact h
  |agg cs=>show cs.any Mo=true;rw[<-IB];exact h
  |fn f cs=>cases h
theorem E8: ∀ (ets:List (Option Ty)) (cs:List Cl) (xs:List C),oG ets cs=some xs->cs.length=ets.length/\F7 (ets.map fun |some e=>e.width|none=>0) (cs.map Cl.av)=some (xs.map C.tree)
 | [],[],xs,h=>by simp only[oG,af] at h; subst h; exact⟨rfl,rfl⟩
 |et::ets, .c x::cs,xs,h=>by
  have h: (match oG ets cs with |some r=>some (x::r)|none=>none)=some xs:=by cases et<;>exact h
  split at h
  ·rename_i r hr;simp only[af] at h;subst h;obtain⟨h1,h2⟩:=E8 ets cs r hr;refine⟨by simp[h1],?_⟩;simp only[aZ,F7];have : ∀s,U8 s (Cl.av (.c x))=some x.tree:=fun s=>by cases x<;>rfl
   rw[this,h2];rfl
  ·cases h
 |some t::ets, .em::cs,xs,h=>by
  simp only[oG] at h;split at h
  ·rename_i r hr;simp only[af] at h;subst h;obtain⟨h1,h2⟩:=E8 ets cs r hr;refine⟨by simp[h1],?_⟩;simp only[aZ,F7,h2];rfl
  ·cases h
 | [],_::_,xs,h=>by simp[oG] at h
 | _::_,[],xs,h=>by simp[oG] at h
 |none::ets, .em::cs,xs,h=>by simp[oG] at h
 | _::ets, .own _ _ _ _ _::cs,xs,h=>by simp[oG] at h
 | _::ets, .pro _::cs,xs,h=>by simp[oG] at h
 | _::ets, .ptrB _ _::cs,xs,h=>by simp[oG] at h
 | _::ets, .ptrT _ _ _ _::cs,xs,h=>by simp[oG] at h
 | _::ets, .dead::cs,xs,h=>by simp[oG] at h
theorem C4 (el:Ty): ∀ (vs:List V) (l:List el.D),vI el vs=some l->l.length=vs.length/\xx el.shs (vs.map fun v=>v.av.cells)=some (l.map el.row)/\ ∀v∈vs,v.av.cells.length=el.width/\v.av.isDead=false
 | [],l,h=>by simp only[vI,af] at h; subst h; exact⟨rfl,rfl,fun v hv=>by cases hv⟩
 | .v x::vs,l,h=>by
   simp only[vI] at h;split at h
   ·rename_i xs hx;split at h
    ·rename_i y ys hy hys;simp only[af] at h;subst h;obtain⟨h1,h2,h3⟩:=C4 el vs ys hys;obtain⟨g1,g2⟩:=E8 _ _ _ hx
     have n1:x≠ .cl .dead:=fun e=>by
      subst e;have hx:oG el.csh [Cl.dead] =some xs:=hx;cases hc:el.csh with
      |nil=>rw[hc] at hx; simp[oG] at hx
      |cons a b=>rw[hc] at hx; simp[oG] at hx
     have n2: ∀f cs,x≠ .fn f cs:=fun f cs e=>by
      subst e;have hx:oG el.csh [Cl.dead] =some xs:=hx;cases hc:el.csh with
      |nil=>rw[hc] at hx; simp[oG] at hx
      |cons a b=>rw[hc] at hx; simp[oG] at hx
     obtain⟨hc,hd⟩:=E7 n1 n2
     have hw:el.csh.length=el.width:=by have:=Ax el;unfold Ty.shs at this;simpa using this
     refine⟨by simp[h1],?_,fun v hv=> ?_⟩
     ·simp only[aZ,xx,hc];rw[show el.shs=el.csh.map fun |some e=>e.width|none=>0 from rfl,g2];simp only[ae];rw[show (el.csh.map fun |some e=>e.width|none=>0)=el.shs from rfl,h2,el.row_flat,Ty.unflat_some _ _ _ hy];rfl
     ·rcases aW.1 hv with rfl|hv
      ·exact⟨by rw[hc,aD,g1,hw],hd⟩
      ·exact h3 v hv
    ·cases h
   ·cases h
 | .tup _::vs,l,h=>by simp[vI] at h
theorem E9 (hΘ:iq P Θ) (hY:ou P Y) (hS:S.ok) {o:Oper} {κ:V->TS->Option ρ} {r:ρ} (h:zD Θ Y S o κ=some r):
  ∃D v S',oF P D/\iJ D P S.st o=some (V.av v,TS.st S')/\S'.ok/\v.ok S'.gh/\κ v S'=some r:=by
 have ok: ∀x,(S.opd x).ok S.gh:=fun x=>nI hS x
 have vals:B8 Θ S o κ=some r->(∀D:tD,iJ D P S.st o=(eD D P S.st o).map fun v=>(v,S.st))-> ∃D v S',oF P D/\iJ D P S.st o=some (V.av v,TS.st S')/\S'.ok/\v.ok S'.gh/\κ v S'=some r:=by intro h he;obtain⟨v,S1,h1,h2,h3,h4,h5,h6⟩:=Cd (D:=JI) hΘ hS h;exact⟨JI,v,S1,kG,by rw[he,h1,aB,h2],h3,by rw[h4]; exact h5,h6⟩
 obtain⟨dst,op,ty,pos,aft,gd⟩:=o;unfold zD at h;cases op with
 |alloc t=>
  simp only at h;split at h
  ·rename_i ti hti;refine⟨JI,_,{ S with bx:=S.bx++ [ti.ty.zvs.map cC] },kG,?_,⟨hS.env,fun cs hcs c hc=> ?_⟩,?_,h⟩
   ·simp only[iJ,(hΘ _ _ hti).ze,aB];rw[Ms,Qi];rfl
   ·rcases bc.1 hcs with h1|h1
    ·exact hS.bx cs h1 c hc
    ·simp only[az] at h1;subst h1;exact Qj _ _ c hc
   ·trivial
  ·cases h
 |box t x=>
  have fin: ∀ (cs:List Cl),(∀c∈cs,c.ok S.gh)->iJ JI P S.st ⟨dst, .box t x,ty,pos,aft,gd⟩=some (.ptrB S.bx.length 0,{ S.st with bx:=fo S.st.bx S.bx.length (some (cs.map Cl.av)),nb:=S.bx.length+1 })->κ (.v (.cl (.ptrB S.bx.length 0))) { S with bx:=S.bx++ [cs] } =some r->
    ∃D v S',oF P D/\iJ D P S.st ⟨dst, .box t x,ty,pos,aft,gd⟩=some (V.av v,TS.st S')/\S'.ok/\v.ok S'.gh/\κ v S'=some r:=by
   intro cs hcs h1 h2;refine⟨JI, .v (.cl (.ptrB S.bx.length 0)),{ S with bx:=S.bx++ [cs] },kG,?_,⟨hS.env,fun cs' hcs' c hc=> ?_⟩,trivial,h2⟩
   ·rw[h1,Ms]; rfl
   ·rcases bc.1 hcs' with h3|h3
    ·exact hS.bx cs' h3 c hc
    ·simp only[az] at h3;subst h3;exact hcs c hc
  simp only at h;split at h
  ·cases h
  ·rename_i c hnd hx;have hc:=ok x;rw[hx] at hc;refine fin [c] (fun c' hc'=>by simp only[az] at hc'; subst hc'; exact hc) ?_ h;simp only[iJ,eI,hx];cases c with
   |dead=>exact absurd rfl hnd
   |c y=>cases y<;>rfl
   | _=>rfl
  ·rename_i cs hx;have hc:=ok x;rw[hx] at hc;refine fin cs hc ?_ h;simp only[iJ,eI,hx];rfl
  ·cases h
 |store t a x=>simp only at h;obtain⟨S1,h1,h2,h3,h⟩:=Qw hΘ hS (ok a) (ok x) h;refine⟨JI,_,S1,kG,?_,h2,V.ok_dead _,h⟩;simp only[iJ,eI,h1,aB];rfl
 |makeSlice t l c=>
  simp only at h;split at h
  ·rename_i ti hti;split at h
   ·rename_i el he;obtain⟨elT',g1,g2,g3,g4,g5,g6⟩:=(hΘ _ _ hti).el el he;obtain⟨n,h1,h⟩:=Bf h;obtain⟨m,h2,h⟩:=Bf h;split at h
    ·rename_i z hz;obtain⟨hb,h⟩:=fR h;have hz':=Ty.unflat_some _ _ _ hz
     have hzr:el.row z=List.zipWith zc el.shs el.zvs:=by rw[el.row_flat,hz',KE]
     refine⟨JI,_,{ S with gh:=S.gh++ [some ⟨el,List.replicate n.toNat z,none⟩] },kG,?_,TS.ok_gh hS (jV.app _ _),?_,h⟩
     ·simp only[iJ,g1,ae,eI,h1,h2];rw[D4 g2 g5 g6];simp only[ae]
      have hn:n<=n*(ti.el:Int):=by
       have h1e: (1:Int)<=ti.el:=by omega
       have:=Int.mul_le_mul_of_nonneg_left h1e hb.1
       rwa [Int.mul_one] at this
      rw[if_pos ⟨hb.1,hb.2.1,by rw[g3,dW]; exact hb.2.2,Int.le_trans hn hb.2.2⟩];rw[EW,g2];simp only[fr.tree,ec,hzr];rfl
     ·refine⟨by simp,fun _=>⟨rfl,rfl,fun tr htr=> ?_⟩⟩;rw[nJ,if_pos rfl] at htr;cases htr;simp
    ·cases h
   ·cases h
  ·cases h
 |buildSlice t len parts=>
  simp only at h;split at h
  ·rename_i ti hti;split at h
   ·rename_i el he;obtain⟨elT',g1,g2,g3,g4,g5,g6⟩:=(hΘ _ _ hti).el el he;obtain⟨hb,h⟩:=eC h;simp only[aq] at hb;have hb1:len*el.width<=1048576:=aA hb.1;have hb2:=IA hb.2
    have hpl:parts.toList.length=len:=by have:=congrArg List.length hb2;simpa using this
    cases hro: (parts.toList.map fun x=>S.opd x.2).any ES with
    |true=>
     rw[hro] at h;simp only[cond_true] at h;split at h
     ·rename_i l hl;obtain⟨m1,m2,m3⟩:=C4 el _ l hl;refine⟨JI, .v (.cl (.c (.ls el l))),S,kG,?_,hS,trivial,h⟩;simp only[iJ,g1,ae]
      rw[if_pos ⟨by rw[g2]; exact hb1,hb2,by rw[g2]; exact el.width_pos,by rw[g6]; rfl,by rw[ax];intro y hy;obtain⟨q1,q2⟩:=m3 (S.opd y.2) (aM.2 ⟨y,hy,rfl⟩);simp only[eI,q1,q2,g2];rfl⟩]
      have e1: (parts.toList.any fun x=>(opd S.st x.2).cells.any HW)=true:=by rw[b6] at hro ⊢;obtain⟨v,hv,hr⟩:=hro;obtain⟨x,hx,rfl⟩:=aM.1 hv;exact⟨x,hx,by rw[eI]; exact Qx hr⟩
      have e2: (parts.toList.map fun x=>(opd S.st x.2).cells)=(parts.toList.map fun x=>S.opd x.2).map fun v=>v.av.cells:=by rw[bE];exact aL fun x _=>by simp only[Function.comp,eI]
      rw[if_pos e1,e2,g5,m2,g2];rfl
     ·cases h
    |false=>
    rw[hro] at h;simp only[cond_false] at h;split at h
    ·rename_i l S1 hp
     have hvok: ∀v∈parts.toList.map (fun x=>S.opd x.2),v.ok S.gh:=fun v hv=>by obtain⟨y,_,rfl⟩:=aM.1 hv;exact ok _
     have hR: ∀ (m:Nat) (v:V),(parts.toList.map fun x=>S.opd x.2)[m]? =some v->(parts.toList.map fun x=>(opd S.st x.2).cells.map T.ofSc)[0+m]? =some (v.av.cells.map T.ofSc):=by intro m v hm;rw[aU,ar];rw[ar] at hm;simp only[ak] at hm;obtain⟨y,hy,rfl⟩:=hm;rw[hy];simp only[aB,eI]
     obtain⟨m1,m2,m3,m4⟩:=OO el S.gh.length (S.gh.length+1) _ 0 S S1 l _ hS rfl hvok hp (by simp) hR;have hlen:l.length=len:=by rw[m2]; simp[hpl]
     refine⟨JI,_,{ S1 with gh:=S1.gh++ [some ⟨el,l,none⟩] },kG,?_,TS.ok_gh m1.ok (jV.app _ _),?_,h⟩
     ·simp only[iJ,g1,ae]
      rw[if_pos ⟨by rw[g2]; exact hb1,hb2,by rw[g2]; exact el.width_pos,by rw[g6]; rfl,by rw[ax];intro y hy;obtain⟨q1,q2⟩:=m3 (S.opd y.2) (aM.2 ⟨y,hy,rfl⟩);simp only[eI,q1,q2,g2];rfl⟩]
      have hfold:=KF S.gh.length el.shs (opd S.st) parts.toList (parts.toList.map fun x=>S.opd x.2) 0 (S.with S.gh.length (S.gh.length+1) el.width (parts.toList.map fun x=>(opd S.st x.2).cells.map T.ofSc)) (by rw[hb2,hpl,cH]) (by rw[bE];exact aL fun y _=>eI _)
      have e0: (parts.toList.any fun x=>(opd S.st x.2).cells.any HW)=false:=by rw[List.any_eq_false] at hro ⊢;intro x hx;have:=hro (S.opd x.2) (aM.2 ⟨x,hx,rfl⟩);rw[eI];exact fun hc=>this (Qy hc)
      rw[if_neg (by rw[e0]; decide)]
      have hX: ({ S.st with gh:=fo S.st.gh S.st.ng (some (.sl (P.cellsOf elT') (parts.toList.map fun x=>(opd S.st x.2).cells.map T.ofSc))),ng:=S.st.ng+1 }:St)=S.with S.gh.length (S.gh.length+1) el.width (parts.toList.map fun x=>(opd S.st x.2).cells.map T.ofSc):=by rw[g2]; rfl
      rw[hX,g5];have hng:S.st.ng=S.gh.length:=rfl;rw[hng]
      have hres: (if (el.shs.all (· ==0))=true then some (S.with S.gh.length (S.gh.length+1) el.width (parts.toList.map fun x=>(opd S.st x.2).cells.map T.ofSc)) else
        parts.toList.foldlM (fun S' x=>ga S' ⟨S.gh.length,[]⟩ x.1 0 el.shs (opd S.st x.2).cells) (S.with S.gh.length (S.gh.length+1) el.width (parts.toList.map fun x=>(opd S.st x.2).cells.map T.ofSc)))=some (S1.with S.gh.length (S.gh.length+1) el.width (l.map el.row)):=by
       rw[hfold];simp only[dG,bo] at m4;rw[m4];split
       ·rename_i hfl
        have : ∀ (vs:List V) (k:Nat) (X:St),xK S.gh.length el.shs k vs X=some X:=by
         intro vs
         induction vs with
         |nil=>intro k X; rfl
         |cons v vs ih=>intro k X; simp only[xK]; rw[Gl _ _ _ _ _ _ hfl]; exact ih _ _
        rw[this] at m4;exact m4
       ·rfl
      rw[hres];simp only[aB];rw[EW,m1.len,g2];simp only[V.av,V1.av,Cl.av,hlen];rfl
     ·refine⟨by simp,fun _=>⟨rfl,rfl,fun tr htr=> ?_⟩⟩;rw[nJ,if_pos rfl] at htr;cases htr;rfl
    ·cases h
   ·cases h
  ·cases h
 |call c=>
  obtain⟨cl,as,ts⟩:=c;cases cl with
  |value f=>simp only at h;exact Qo hΘ hY hS h
  |invoke a b=>exact vals h (fun D=>rfl)
  |builtin b=>
   cases b with
   |append=>
    simp only at h;split at h
    ·rename_i s x t t' e1 e2;cases htb:Nat.beq t t' with
     |false=>
      rw[htb] at h;simp only[cond_false] at h;have hne: ¬t=t':=fun e=>by rw[e,cI] at htb; cases htb
      unfold TO at h;split at h
      ·rename_i ti hti;split at h
       ·rename_i el he hs;obtain⟨elT',g1,g2,g3,g4,g5,g6⟩:=(hΘ _ _ hti).el el he;obtain⟨n,h1,h⟩:=Bf h;split at h
        ·rename_i z hz;obtain⟨hb,h⟩:=fR h;have hz':=Ty.unflat_some _ _ _ hz
         have hzr:el.row z=List.zipWith zc el.shs el.zvs:=by rw[el.row_flat,hz',KE]
         obtain⟨kk,hkk⟩:=Sz h1;refine⟨JI,_,{ S with gh:=S.gh++ [some ⟨el,List.replicate n.toNat z,none⟩] },kG,?_,TS.ok_gh hS (jV.app _ _),?_,h⟩
         ·simp only[iJ,e1,e2,if_neg hne,g1,ae];rw[D4 g2 g5 g6];simp only[ae,eI,hs,hkk]
          have hn:n<=n*(ti.el:Int):=by
           have h1e: (1:Int)<=ti.el:=by omega
           have:=Int.mul_le_mul_of_nonneg_left h1e (dQ hb.1)
           rwa [Int.mul_one] at this
          show (if 0<n/\_ then _ else _)=_;rw[if_pos ⟨hb.1,by rw[g3,dW]; exact hb.2,Int.le_trans hn hb.2,by rw[g2]; exact el.width_pos⟩];rw[EW,g2];simp only[fr.tree,ec,hzr];rfl
         ·refine⟨by simp,fun _=>⟨rfl,rfl,fun tr htr=> ?_⟩⟩;rw[nJ,if_pos rfl] at htr;cases htr;simp
        ·cases h
       ·cases h
      ·cases h
     |true=>
     rw[htb] at h;simp only[cond_true] at h;have h':=h;have ht:t=t':=au htb;clear h;subst ht;have e1:as= #[s,x] :=by apply Array.ext'; simpa using e1
     have e2:ts= #[t,t] :=by apply Array.ext'; simpa using e2
     subst e1 e2;obtain⟨v,S1,h1,h2,h3,h4⟩:=Sv (D:=JI) (dst:=dst) (ty:=ty) (pos:=pos) (aft:=aft) (gd:=gd) hΘ hS h';exact⟨JI,v,S1,kG,h1,h2,h3,h4⟩
    ·cases h
   | _=>exact vals h (fun D=>rfl)
 | _=>exact vals h (fun D=>rfl)
end
end
section
open Go
section
variable {ρ:Type} {P:Program} {Θ:qG} {S:TS} {Y:BQ}
theorem KG (hS:S.ok) {ops:Array Oper} {o:Oper} {κ:Bool->TS->Option ρ} {r:ρ} (h:Ny S ops.toList o κ=some r): ∃b S1,oD S.st ops o=some b/\S1.st=S.st/\S1.ok/\S1.gh=S.gh/\κ b S1=some r:=by
 unfold Ny at h;split at h
 ·rename_i hg;exact⟨true,S,by unfold oD; rw[hg],rfl,hS,rfl,h⟩
 ·rename_i j want hg;split at h
  ·rename_i oj hj;split at h
   ·rename_i d hd;rw[gR,bB] at hj;split at h
    ·rename_i he;refine⟨_,S,?_,rfl,hS,rfl,h⟩;unfold oD;rw[hg];simp only[hj,ae,hd];have :S.st.env d= .tup [] :=by show (kj S.env d).av=_; rw[he]; rfl
     rw[this]
    ·obtain⟨b,S1,h1,h2,h3,h4,h5⟩:=EV hS h;refine⟨_,S1,?_,h2,h3,h4,h5⟩;unfold oD;rw[hg];simp only[hj,ae,hd];have :S.st.env d= .sc (.bool b):=h1;rw[this]
   ·cases h
  ·cases h
theorem nx (hS:S.ok) {d:Option Tmp} {v:V} (hv:v.ok S.gh) {κ:TS->Option ρ} {r:ρ} (h:uH S d v κ=some r): ∃S1,S.st.put d v.av=some (TS.st S1)/\S1.ok/\S1.gh=S.gh/\κ S1=some r:=by
 unfold uH at h;split at h
 ·rename_i t;obtain⟨h1,h⟩:=eC h;have h1:t<S.nt:=aA h1;refine⟨{ S with env:=(t,v)::S.env },?_,⟨fun x hx=> ?_,hS.bx⟩,rfl,h⟩
  ·simp only[St.put];rw[if_pos (show t<S.st.nt from h1)]
   congr 1
   unfold TS.st
   congr 1
   funext u
   unfold fo;simp only[kj];cases hb:Nat.beq t u with
   |true=>have :t=u:=au hb;subst this;simp
   |false=>
    have : ¬u=t:=by intro e; subst e; rw[cI] at hb; cases hb
    rw[if_neg this];rfl
  ·rcases aW.1 hx with rfl|hx
   ·exact hv
   ·exact hS.env x hx
 ·exact⟨S,rfl,hS,rfl,h⟩
theorem Qz {α:Type} {x y:Option α} {r:α} (h:Sg x y none=some r):x=some r/\y=some r:=by
 unfold Sg at h;split at h
 ·rename_i e;exact⟨h,by rw[<-e]; exact h⟩
 ·cases h
theorem QA {α:Type} (x z:α):Sg x x z=x:=by unfold Sg; rw[if_pos rfl]
theorem IC {o:Oper} {t:TypeId} {x:Operand} (h:D0 o=some (t,x)): (∃t',o.op= .binOp .eql t x (.const (.slice none 0 0)) t')/\o.guard=none:=by
 unfold D0 at h;split at h
 ·rename_i t1 x1 t' ho;split at h
  ·rename_i hg;simp only[af,an] at h;obtain⟨rfl,rfl⟩:=h;exact⟨⟨t',ho⟩,hg⟩
  ·cases h
 ·cases h
theorem Mu {o:Oper} {k:Nat} {g:FuncId} {caps:List Cl} {r sz:Nat} {us:List TypeId} {xs:List Operand} (h:Ks Y S o=some (k,g,caps,r,sz,us,xs)):
  ∃f as ts x t lo len,o.op= .call { callee:= .value f,args:=as,argTypes:=ts } /\o.guard=none/\as.toList=x::xs/\ts.toList=t::us/\S.opd x= .v (.cl (.own ⟨r,[]⟩ sz lo len true))/\g<kB/\
   ((∃a b,S.opd f= .v (.cl (.c (.sc (.func (.func g) a b))))/\caps= [])\/S.opd f= .v (.fn g caps)):=by
 unfold Ks at h;split at h
 ·rename_i f as ts hop;split at h
  ·cases h
  ·rename_i hg;split at h
   ·rename_i x xs' t us' e1 e2;split at h
    ·rename_i r' sz' lo len hx;split at h
     ·rename_i g' a b hf;obtain⟨h2,h⟩:=eC h;simp only[aq] at h2;simp only[af,an] at h;obtain⟨rfl,rfl,rfl,rfl,rfl,rfl,rfl⟩:=h;exact⟨f,as,ts,x,t,lo,len,hop,hg,e1,e2,hx,aA h2.1, .inl ⟨a,b,hf,rfl⟩⟩
     ·rename_i g' caps' hf;obtain⟨h2,h⟩:=eC h;simp only[aq] at h2;simp only[af,an] at h;obtain⟨rfl,rfl,rfl,rfl,rfl,rfl,rfl⟩:=h;exact⟨f,as,ts,x,t,lo,len,hop,hg,e1,e2,hx,aA h2.1, .inr hf⟩
     ·cases h
    ·cases h
   ·cases h
 ·cases h
theorem Cj (hΘ:iq P Θ) (hS:S.ok): ∀ (ts:List TypeId) (as:List Operand) (κ:List V1->Option ρ) (r:ρ),vH Θ S ts as κ=some r->ts.length=as.length
 | [],[],_,_,_=>rfl
 | [],_::_,_,_,h=>by simp[vH] at h
 | _::_,[],_,_,h=>by simp[vH] at h
 |t::ts,a::as,κ,r,h=>by unfold vH at h;obtain⟨v,_,h⟩:=Qn hΘ hS (nI hS a) h;rw[bk,bk,Cj hΘ hS ts as _ r h]
theorem QB (hΘ:iq P Θ) (hY:ou P Y) (hS:S.ok) {ops:Array Oper} {o:Oper} {os:List Oper} {Post:St->Prop} {k:Nat} {g:FuncId} {caps:List Cl} {q sz:Nat} {us:List TypeId} {xs:List Operand} (ht:Ks Y S o=some (k,g,caps,q,sz,us,xs)) {κ:TS->Option ρ} {r:ρ}
  (ih: ∀S3:TS,S3.ok->κ S3=some r->vE P ops os S3.st Post) (h:P8 Θ Y S k g caps q sz us xs o.dst κ=some r):vE P ops (o::os) S.st Post:=by
 obtain⟨f,as,ts,x,t,lo,len,hop,hgd,has,hts,hx,hgk,hf⟩:=Mu ht;unfold P8 at h;split at h
 ·rename_i el l hq;obtain⟨hsz0,h0⟩:=eC h;have hsz:sz=el.width:=au hsz0;clear h hsz0;subst hsz;have h:=h0;clear h0
  have hql:q<S.gh.length:=by
   rcases cm q S.gh.length with h'|h'
   ·exact h'
   ·rw[yU h'] at hq; cases hq
  have hS0: ({ S with gh:=gq S.gh q none }:TS).ok:=TS.ok_gh hS (jV.gone _ _);have hst0: ({ S with gh:=gq S.gh q none }:TS).st= { S.st with gh:=fo S.st.gh q none } :=Bg S q;have hlen:=Cj hΘ hS0 _ _ _ _ h;obtain⟨vs,h1,h⟩:=vJ hΘ hS0 _ _ _ _ h
  have hcaps: ∀c∈caps,c.ok (gq S.gh q none):=by
   intro c hc;rcases hf with ⟨_,_,_,rfl⟩|hf
   ·cases hc
   ·have:=nI hS f;rw[hf] at this;exact Cl.ok_mono (jV.gone _ _) (this c hc)
  obtain⟨cs,h2,h⟩:=Bh hS0 _ _ _ hcaps h
  have hargs:wX P { S.st with gh:=fo S.st.gh q none } us xs (caps.map Cl.av)=(vs++cs.map V1.cl).map V1.av:=by unfold wX;rw[<-hst0,h1,h2,cg,bE];rfl
  have hcal:callee S.st f=some (g,caps.map Cl.av):=by unfold callee;rw[eI];rcases hf with ⟨_,_,hf,rfl⟩|hf<;>(rw[hf]; rfl)
  have hxo:=nI hS x;rw[hx] at hxo;obtain⟨_,hxo⟩:=hxo;obtain⟨_,hlo,hln⟩:=hxo rfl;have hln:=hln _ hq;subst hlo hln;have hxv:opd S.st x= .own ⟨q,[]⟩ el.width 0 l.length:=by rw[eI,hx]; rfl
  have htr:S.st.gh q=some (.sl el.width (l.map el.row)):=by show (gx S.gh q).map fr.tree=_;rw[hq];rfl
  cases hk:Nat.beq k 1 with
  |true=>
   rw[hk] at h;simp only[cond_true] at h;obtain⟨res,out,g1,g2,h⟩:=hY _ _ _ _ _ h;have g1:=(g1.io g rfl hgk).get;split at h
   ·rename_i t' l' _;obtain⟨hc,h⟩:=eC h;simp only[aq,decide_eq_true_eq] at hc;obtain⟨rfl,hns⟩:=hc;unfold eh at h;split at h
    ·rename_i hll;have hG:jV S.gh (gq S.gh q (some ⟨t',l',none⟩)):=jV.put hq hll
     have hrp:res.av.plain=true:=by unfold Mp at hns;split at hns<;>first |rfl|cases hns
     have hro:res.ok (gq S.gh q (some ⟨t',l',none⟩)):=by
      unfold Mp at hns;split at hns
      ·trivial
      ·intro x hx; cases hx
      ·cases hns
     obtain⟨S3,k1,k2,_,h⟩:=nx (S:= { S with gh:=gq S.gh q (some ⟨t',l',none⟩) }) (TS.ok_gh hS hG) hro h;rw[Cf S _ hql] at k1;refine vE.hand hop hgd has hlen hcal hxv htr (m:=1) (by rw[hargs]; exact g1) (.inr ⟨rfl,_,rfl,hrp,S3.st,k1,ih S3 k2 h⟩)
    ·cases h
   ·cases h
  |false=>
   rw[hk] at h;simp only[cond_false] at h;obtain⟨hfz0,h⟩:=eC h;have hfz:S.st.fz<=q:=aA hfz0;obtain⟨res,out,g1,g2,h⟩:=hY _ _ _ _ _ h;have g1:=(g1.mv g rfl).get;have hl0: (gq S.gh q none).length=S.gh.length:=by rw[jb]; simp
   have hro: (ww S.gh.length res).ok (gq S.gh q none++out.map some):=by
    have:=Ch (G:=gq S.gh q none) g2
    rwa [hl0] at this
   obtain⟨S3,k1,k2,_,h⟩:=nx (S:= { S with gh:=gq S.gh q none++out.map some }) (TS.ok_gh hS0 (jV.apps _ _)) hro h;rw[show ({ S with gh:=gq S.gh q none++out.map some }:TS).st=_ from Aw { S with gh:=gq S.gh q none } res.av out,hst0,Cg] at k1;exact vE.hand hop hgd has hlen hcal hxv htr (m:=0) (by rw[hargs]; exact g1) (.inl ⟨hfz,S3.st,k1,ih S3 k2 h⟩)
 ·cases h
structure uP (S S1:TS) (L:List Nat):Prop where
 env:S1.env=S.env
 bx:S1.bx=S.bx
 fz:S1.fz=S.fz
 nt:S1.nt=S.nt
 len:S1.gh.length=S.gh.length
 gh: ∀r,gx S1.gh r=if L.contains r then none else gx S.gh r
 was: ∀q∈L,∃tr,gx S.gh q=some tr
theorem uP.refl (S:TS):uP S S [] :=⟨rfl,rfl,rfl,rfl,rfl,fun _=>by simp,fun _ h=>by cases h⟩
theorem uP.one {q:Nat} {tr:fr} (h:gx S.gh q=some tr):uP S { S with gh:=gq S.gh q none } [q] :=
 ⟨rfl,rfl,rfl,rfl,by simp[jb],fun r=>by
  show gx (gq S.gh q none) r=_;rw[rE q r (.inr rfl)];by_cases hr:r=q
  ·subst hr; simp
  ·rw[if_neg hr,if_neg (by simpa using hr)],fun r hr=>by rw[az.1 hr]; exact⟨tr,h⟩⟩
theorem uP.trans {S1 S2:TS} {L L':List Nat} (h:uP S S1 L) (k:uP S1 S2 L'):uP S S2 (L++L'):=
 ⟨k.env.trans h.env,k.bx.trans h.bx,k.fz.trans h.fz,k.nt.trans h.nt,k.len.trans h.len,fun r=>by
  rw[k.gh,h.gh]
  have e: (L++L').contains r=(L.contains r||L'.contains r):=by rw[ce];simp
  rw[e];cases L.contains r<;>cases L'.contains r<;>rfl,fun q hq=>by
  rcases bc.1 hq with hq|hq
  ·exact h.was q hq
  ·obtain⟨tr,ht⟩:=k.was q hq;rw[h.gh] at ht;split at ht
   ·cases ht
   ·exact⟨tr,ht⟩⟩
theorem uP.apart {S1 S2:TS} {L L':List Nat} (h:uP S S1 L) (k:uP S1 S2 L') (h1:L.Nodup) (h2:L'.Nodup): (L++L').Nodup:=by rw[List.nodup_append];refine⟨h1,h2,fun a ha b hb e=> ?_⟩;subst e;obtain⟨tr,ht⟩:=k.was a hb;rw[h.gh,if_pos (by simpa using ha)] at ht;cases ht
theorem uP.le {S1:TS} {L:List Nat} (h:uP S S1 L):jV S.gh S1.gh:=⟨by rw[h.len]; exact ay _,fun r tr _ ht=>by
 rw[h.gh] at ht;split at ht
 ·cases ht
 ·exact⟨tr,ht,rfl⟩⟩
theorem uP.ok {S1:TS} {L:List Nat} (h:uP S S1 L) (hS:S.ok):S1.ok:=
 ⟨fun x hx=>V.ok_mono h.le (hS.env x (by rw[<-h.env]; exact hx)),fun cs hcs c hc=>Cl.ok_mono h.le (hS.bx cs (by rw[<-h.bx]; exact hcs) c hc)⟩
theorem uP.st {S1:TS} {L:List Nat} (h:uP S S1 L):S1.st=dropL S.st L:=by
 unfold TS.st dropL;rw[h.env,h.bx,h.fz,h.nt,h.len];simp only
 congr 1
 funext r
 rw[h.gh];cases L.contains r<;>rfl
theorem KH {o:Oper} {g:FuncId} {caps:List Cl} {a:Mq} {us:List TypeId} {xs:List Operand} (h:ET Y S o=some (g,caps,a,us,xs)):
  ∃f as ts x t,o.op= .call { callee:= .value f,args:=as,argTypes:=ts } /\o.guard=none/\as.toList=x::xs/\ts.toList=t::us/\Iu (S.opd x)=some a/\g<kB/\
   ((∃a b,S.opd f= .v (.cl (.c (.sc (.func (.func g) a b))))/\caps= [])\/S.opd f= .v (.fn g caps)):=by
 unfold ET at h;split at h
 ·rename_i f as ts hop;split at h
  ·cases h
  ·rename_i hg;split at h
   ·rename_i x xs' t us' e1 e2;split at h
    ·rename_i a' hx;split at h
     ·rename_i g' a b hf;obtain⟨h2,h⟩:=eC h;simp only[aq] at h2;simp only[af,an] at h;obtain⟨rfl,rfl,rfl,rfl,rfl⟩:=h;exact⟨f,as,ts,x,t,hop,hg,e1,e2,hx,aA h2.1, .inl ⟨a,b,hf,rfl⟩⟩
     ·rename_i g' caps' hf;obtain⟨h2,h⟩:=eC h;simp only[aq] at h2;simp only[af,an] at h;obtain⟨rfl,rfl,rfl,rfl,rfl⟩:=h;exact⟨f,as,ts,x,t,hop,hg,e1,e2,hx,aA h2.1, .inr hf⟩
     ·cases h
    ·cases h
   ·cases h
 ·cases h
theorem HA: ∀ (L:List Nat) (S:TS),L.Nodup->(∀r∈L,∃tr,gx S.gh r=some tr)->uP S { S with gh:=P9 S.gh L } L
 | [],S,_,_=>uP.refl S
 |r::L,S,hnd,h=>by
  obtain⟨tr,htr⟩:=h r aG;rw[List.nodup_cons] at hnd;have h1:=uP.one htr
  have h2:=HA L { S with gh:=gq S.gh r none } hnd.2 (fun r' hr'=>by
   obtain⟨tr',htr'⟩:=h r' (aF _ hr');refine⟨tr',?_⟩;rw[h1.gh,if_neg]
   ·exact htr'
   ·intro hc;rw[bD,az] at hc;subst hc;exact hnd.1 hr')
  exact h1.trans h2
theorem Ay: ∀ (cs:List Cl) (ys:List C) (L:List Nat),yS S cs=some (ys,L)->(∀c∈cs,c.ok S.gh)->ys.length=cs.length/\(vh ys).length=L.length/\
  (∀ (k r:Nat),L[k]? =some r-> ∃el l,(vh ys)[k]? =some ⟨el,l,none⟩/\gx S.gh r=some ⟨el,l,none⟩)/\
  ∀ (w:World) (bt bt':Bt) (m:Nat),(∀ (k r:Nat),L[k]? =some r->bt'.β ⟨m+k,[]⟩=bt.β ⟨r,[]⟩/\bt'.κ ⟨m+k,[]⟩=bt.κ ⟨r,[]⟩/\m+k<bt'.ng)->
    ∀ (j:Nat) (c c':Cl) (u:Value),cs[j]? =some c->(Av ys m)[j]? =some c'->VR w bt c.av u->VR w bt' c'.av u
 | [],ys,L,h,_=>by simp only[yS,af,an] at h;obtain⟨rfl,rfl⟩:=h;exact⟨rfl,rfl,fun k r hk=>by simp at hk,fun w bt bt' m _ j c c' u hj=>by simp at hj⟩
 |c0::cs,ys,L,h,hok=>by
  unfold yS at h;split at h
  ·cases ‹_= []›
  ·rename_i v cs' e;simp only[bM] at e;obtain⟨rfl,rfl⟩:=e;split at h
   ·rename_i ys' L' hr;simp only[af,an] at h;obtain⟨rfl,rfl⟩:=h;obtain⟨h1,h2,h3,h4⟩:=Ay cs ys' L' hr (fun c hc=>hok c (aF _ hc));refine⟨by simp[h1],h2,h3,fun w bt bt' m hm j c c' u hj hj' hv=> ?_⟩;cases j with
    |zero=>
     simp only[Av,aK,af] at hj hj';subst hj hj';cases hv with
     |sc h=>exact .sc h
    |succ j=>exact h4 w bt bt' m hm j c c' u (by simpa using hj) (by simpa [Av] using hj') hv
   ·cases h
  ·rename_i r sz lo len cs' e;simp only[bM] at e;obtain⟨rfl,rfl⟩:=e;split at h
   ·rename_i el l hg;obtain⟨hsz,h0⟩:=eC h;have hsz:sz=el.width:=au hsz;clear h;split at h0
    ·rename_i ys' L' hr;simp only[af,an] at h0;obtain⟨rfl,rfl⟩:=h0;obtain⟨h1,h2,h3,h4⟩:=Ay cs ys' L' hr (fun c hc=>hok c (aF _ hc));obtain⟨_,hlo⟩:=hok (.own ⟨r,[]⟩ sz lo len true) aG;obtain⟨_,hlo,hln⟩:=hlo rfl;have hln:=hln _ hg;simp only at hln;refine⟨by simp[h1],by simp[vh,h2],fun k r' hk=> ?_,fun w bt bt' m hm j c c' u hj hj' hv=> ?_⟩
     ·cases k with
      |zero=>simp only[aK,af] at hk;subst hk;exact⟨el,l,rfl,hg⟩
      |succ k=>exact h3 k r' (by simpa using hk)
     ·cases j with
      |zero=>
       simp only[Av,aK,af] at hj hj';subst hj hj' hsz hlo hln;obtain⟨e1,e2,e3⟩:=hm 0 r rfl;rw[cy] at e1 e2 e3;cases hv with
       |own hp hc hk ha=>exact .own e3 hc (by rw[e2]; exact hk) (by rw[e1]; exact ha)
      |succ j=>exact h4 w bt bt' (m+1) (fun k r' hk=>by
        have:=hm (k+1) r' (by simpa using hk)
        rwa [show m+(k+1)=m+1+k by omega] at this) j c c' u (by simpa using hj) (by simpa [Av] using hj') hv
    ·cases h0
   ·cases h
  ·cases h
theorem uQ: ∀ (ys:List C) (m:Nat),(Av ys m).length=ys.length
 | [],_=>rfl
 | .sc v::r,m=>by simp[Av,uQ r m]
 | .ls t l::r,m=>by simp[Av,uQ r (m+1)]
theorem KI: ∀ (L:List Nat) (S:TS) (out:List fr) (κ:TS->Option ρ) (r:ρ),L.Nodup->EU S L out κ=some r->
  ∃Sp:TS,Sp.env=S.env/\Sp.bx=S.bx/\Sp.fz=S.fz/\Sp.nt=S.nt/\Sp.gh.length=S.gh.length/\out.length=L.length/\(∀ (k q:Nat),L[k]? =some q->gx Sp.gh q=out[k]?)/\(∀q,q∉L->gx Sp.gh q=gx S.gh q)/\jV S.gh Sp.gh/\κ Sp=some r
 | [],S,out,κ,r,_,h=>by
   cases out with
   |nil=>exact⟨S,rfl,rfl,rfl,rfl,rfl,rfl,fun k q hk=>by simp at hk,fun _ _=>rfl,jV.refl _,h⟩
   |cons x out=>simp[EU] at h
 |q::L,S,out,κ,r,hnd,h=>by
  rw[List.nodup_cons] at hnd;cases out with
  |nil=>simp[EU] at h
  |cons x out=>
   obtain⟨t,l',hole⟩:=x;cases hole with
   |some y=>simp[EU] at h
   |none=>
    simp only[EU] at h;split at h
    ·rename_i el l hg;obtain⟨ht,h⟩:=eC h;have ht:t=el:=by simpa using ht
     subst ht;obtain⟨hl,h⟩:=fR h;obtain⟨Sp,a1,a2,a3,a4,a5,a6,a7,a8,a9,h⟩:=KI L { S with gh:=gq S.gh q (some ⟨t,l',none⟩) } out κ r hnd.2 h;have hql:=yV hg;have hG:jV S.gh (gq S.gh q (some ⟨t,l',none⟩)):=jV.put hg hl;refine⟨Sp,a1,a2,a3,a4,by rw[a5]; simp[jb],by simp[a6],fun k q' hk=> ?_,fun q' hq'=> ?_,hG.trans a9,h⟩
     ·cases k with
      |zero=>simp only[aK,af] at hk;subst hk;rw[a8 q hnd.1];show gx (gq S.gh q _) q=_;rw[rE q q (.inl hql),if_pos rfl];rfl
      |succ k=>rw[a7 k q' (by simpa using hk)];simp
     ·rw[a8 q' (fun hm=>hq' (aF _ hm))];show gx (gq S.gh q _) q'=_;rw[rE q q' (.inl hql),if_neg (fun e=>hq' (by rw[e]; exact aG))]
    ·cases h
theorem Fa {res:V} (h:Mp res=true):res.av.plain=true/\ ∀G,res.ok G:=by
 unfold Mp at h;split at h
 ·exact⟨rfl,fun _=>trivial⟩
 ·exact⟨rfl,fun _ x hx=>by cases hx⟩
 ·cases h
theorem OP (hΘ:iq P Θ) (hY:ou P Y) (hS:S.ok) {ops:Array Oper} {o:Oper} {os:List Oper} {Post:St->Prop} {g:FuncId} {caps:List Cl} {a:Mq} {us:List TypeId} {xs:List Operand} (ht:ET Y S o=some (g,caps,a,us,xs)) {κ:TS->Option ρ} {r:ρ}
  (ih: ∀S3:TS,S3.ok->κ S3=some r->vE P ops os S3.st Post) (h:Iv Θ Y S g caps a us xs o.dst κ=some r):vE P ops (o::os) S.st Post:=by
 obtain⟨f,as,ts,x,t0,hop,hgd,has,hts,hx,hgk,hf⟩:=KH ht
 have hcal:callee S.st f=some (g,caps.map Cl.av):=by unfold callee;rw[eI];rcases hf with ⟨_,_,hf,rfl⟩|hf<;>(rw[hf]; rfl)
 have others: ∀ {S0:TS} (hS0:S0.ok) (hG:jV S.gh S0.gh) {K:List V1->List Cl->Option ρ},(vH Θ S0 us xs fun vs=>EP (OG S0 none) caps fun ks=>K vs ks)=some r->
   ∃vs ks,us.length=xs.length/\wX P S0.st us xs (caps.map Cl.av)=(vs++ks.map V1.cl).map V1.av/\K vs ks=some r:=by
  intro S0 hS0 hG K h;have hlen:=Cj hΘ hS0 _ _ _ _ h;obtain⟨vs,h1,h⟩:=vJ hΘ hS0 _ _ _ _ h
  have hcaps: ∀c∈caps,c.ok S0.gh:=by
   intro c hc;rcases hf with ⟨_,_,_,rfl⟩|hf
   ·cases hc
   ·have:=nI hS f;rw[hf] at this;exact Cl.ok_mono hG (this c hc)
  obtain⟨ks,h2,h⟩:=Bh hS0 _ _ _ hcaps h;refine⟨vs,ks,hlen,?_,h⟩;unfold wX;rw[h1,h2,cg,bE];rfl
 have hxo:=nI hS x;cases a with
 |agg cs=>
  have hxv:S.opd x= .v (.agg cs):=by
   unfold Iu at hx;split at hx
   ·cases hx
   ·rename_i e;simp only[af,Mq.agg.injEq] at hx;rw[e,hx]
   ·cases hx
  rw[hxv] at hxo;unfold Iv at h;simp only at h;split at h
  ·rename_i ys L hga;obtain⟨hnd,h0⟩:=eC h;clear h;have hnd:L.Nodup:=DY.1 hnd;obtain⟨g1,g2,g3,g4⟩:=Ay cs ys L hga hxo
   have hd:=HA L S hnd (fun q hq=>by obtain⟨k,hk,hkq⟩:=aJ hq;obtain⟨el,l,_,e⟩:=g3 k q (by rw[<-hkq]; exact ah hk);exact⟨_,e⟩)
   obtain⟨vs,ks,hlen,hargs,h⟩:=others (hd.ok hS) hd.le h0;obtain⟨res,out,k1,k2,h⟩:=hY _ _ _ _ _ h;have k1:=(k1.io g rfl hgk).getA;obtain⟨hns,h⟩:=eC h;obtain⟨hpl,hrok⟩:=Fa hns;obtain⟨Sp,a1,a2,a3,a4,a5,a6,a7,a8,a9,h⟩:=KI L S out _ r hnd h;have hSp:Sp.ok:=⟨fun x hx=>V.ok_mono a9 (hS.env x (by rw[<-a1]; exact hx)),fun cs hcs c hc=>Cl.ok_mono a9 (hS.bx cs (by rw[<-a2]; exact hcs) c hc)⟩
   obtain⟨S3,m1,m2,_,h⟩:=nx hSp (hrok _) h
   have hGave:EK S.st (L.map fun r=>⟨r,[]⟩) ((vh ys).map fr.tree):=Me (by simp[g2]) hnd (fun k q hk=>by obtain⟨el,l,e1,e2⟩:=g3 k q hk;refine⟨el.width,l.map el.row,by rw[ar,e1]; rfl,?_⟩;show (gx S.gh q).map fr.tree=_;rw[e2];rfl)
   have hps: (L.map fun r=>(⟨r,[]⟩:fj)).length=(vh ys).length:=by rw[aD,g2]
   have hout: (out.map fr.tree).length=L.length:=by rw[aD,a6]
   refine vE.handG hop hgd has hlen hcal (Mf L) (fun w0 W bt w hI=>hI.dropL L) hGave (av0:= .agg ((Av ys 0).map Cl.av)) (fun w bt u hv=> ?_) (res:=res.av) (out:=out.map fr.tree) (by rw[<-hd.st,hargs,hps]; exact k1)
    (Mg hGave hout (by unfold TS.st; simp only[a1]) (by unfold TS.st; simp only[a2]) (by unfold TS.st; simp only[a2]) (by unfold TS.st; simp only[a5]) a3 a4 (fun k q hk=>by
      show (gx Sp.gh q).map fr.tree=_;rw[a7 k q hk,ar]) (fun q hq=>by
      show (gx Sp.gh q).map fr.tree=(gx S.gh q).map fr.tree;rw[a8 q hq])) hpl ⟨S3.st,m1,ih S3 m2 h⟩
   rw[eI,hxv] at hv;have hv:VR w bt (.agg (cs.map Cl.av)) u:=hv;cases hv with
   |agg hl ho hr=>
    rename_i us0;refine .agg (by rw[aD,uQ,g1]; simpa using hl) ho (fun k c u hk hu=> ?_);rw[ar] at hk;simp only[ak] at hk;obtain⟨c',hc',rfl⟩:=hk
    have hkl:k<cs.length:=by have:=(ai.1 hc').1;rw[uQ,g1] at this;exact this
    refine g4 w bt _ 0 (fun i q hi=> ?_) k cs[k] c' u (ah hkl) hc' (hr k _ u (by rw[ar,ah hkl]; rfl) hu)
    have hpi: (L.map fun r=>(⟨r,[]⟩:fj))[(⟨0+i,[]⟩:fj).r]? =some ⟨q,[]⟩:=by rw[ar];show (L[0+i]?).map _=_;rw[aU,hi];rfl
    have hpl2:=B6 hpi;refine⟨?_,?_,?_⟩
    ·show bt.β (JH _ _)=_;rw[hpl2];rfl
    ·show bt.κ (JH _ _)=_;rw[hpl2];rfl
    ·show 0+i< (L.map fun r=>(⟨r,[]⟩:fj)).length;rw[aD,aU];exact (ai.1 hi).1
  ·cases h
 |nest q i j sz lo len=>
  obtain⟨w0,hxv⟩: ∃w,S.opd x= .v (.cl (.own ⟨q,[(i,j)]⟩ sz lo len w)):=by
   unfold Iu at hx;split at hx
   ·rename_i w e;simp only[af,Mq.nest.injEq] at hx;obtain⟨rfl,rfl,rfl,rfl,rfl,rfl⟩:=hx;exact⟨_,e⟩
   ·cases hx
   ·cases hx
  rw[hxv] at hxo;unfold Iv at h;simp only at h;split at h
  ·rename_i t l hq;obtain⟨y,hy,h⟩:=aj.1 h;split at h
   ·rename_i el v hv;obtain⟨hsz,h0⟩:=eC h;have hsz:sz=el.width:=au hsz;clear h;subst hsz;obtain⟨hll,h1⟩:=fR h0;clear h0;obtain⟨rfl,rfl⟩:=hll;have hql:=yV hq;have hhole:jV S.gh (gq S.gh q (some ⟨t,l,some (i,j)⟩)):=jV.put hq rfl;obtain⟨vs,ks,hlen,hargs,h⟩:=others (S0:= { S with gh:=gq S.gh q (some ⟨t,l,some (i,j)⟩) }) (TS.ok_gh hS hhole) hhole h1;clear h1;obtain⟨res,out,k1,k2,h⟩:=hY _ _ _ _ _ h;have k1:=(k1.io g rfl hgk).get;split at h
    ·rename_i t' v' _;obtain⟨hc,h⟩:=eC h;simp only[aq,decide_eq_true_eq] at hc;obtain⟨rfl,hns⟩:=hc;obtain⟨hpl,hrok⟩:=Fa hns;obtain⟨hvl,h⟩:=fR h;split at h
     ·rename_i z hz;have hG:jV S.gh (gq S.gh q (some ⟨t,l.set i z,none⟩)):=jV.put hq (by simp);obtain⟨S3,m1,m2,_,h⟩:=nx (S:= { S with gh:=gq S.gh q (some ⟨t,l.set i z,none⟩) }) (TS.ok_gh hS hG) (hrok _) h
      have hrowy: (l.map t.row)[i]? =some ((t.flat y).map C.tree):=by rw[ar,hy];simp only[aB,t.row_flat]
      have hcell: ((t.flat y).map C.tree)[j]? =some (.sl t'.width (v.map t'.row)):=by rw[gR] at hv;rw[ar,hv];rfl
      have hgq:S.st.gh q=some (.sl t.width (l.map t.row)):=by show (gx S.gh q).map fr.tree=_;rw[hq];rfl
      have hlook:S.st.look ⟨q,[(i,j)]⟩= .sl t'.width (v.map t'.row):=by unfold St.look;simp only[hgq,T.go,T.cell,aw,hrowy,aP,hcell]
      have hforget: ∀ (w0:World) (W:Nat->Prop) (bt:Bt) (w:World),gz w0 W bt S.st w->_:=fun w0 W bt w hI=>hI.forget hlook
      have hSm: ({ S with gh:=gq S.gh q (some ⟨t,l,some (i,j)⟩) }:TS).st=S.st.setAt ⟨q,[(i,j)]⟩ .dd:=by rw[Cf S _ hql];unfold St.setAt;simp only[hgq,aB];rfl
      have hSp: ({ S with gh:=gq S.gh q (some ⟨t,l.set i z,none⟩) }:TS).st=S.st.setAt ⟨q,[(i,j)]⟩ (.sl t'.width (v'.map t'.row)):=by
       rw[Cf S _ hql];unfold St.setAt;simp only[hgq,aB,T.put]
       congr 3
       show T.sl t.width ((l.set i z).map t.row)=_;rw[List.map_set,t.row_flat z,t.unflat_some _ _ hz,jb,List.map_set];simp only[aw,hrowy,aP];rfl
      rw[hSp] at m1;refine vE.handG hop hgd has hlen hcal (Sm:=S.st.setAt ⟨q,[(i,j)]⟩ .dd) (ps:= [⟨q,[(i,j)]⟩]) ?_ (fun w0 W bt w hI=>(hforget w0 W bt w hI).1) (PX hlook) (av0:= .own ⟨0,[]⟩ t'.width 0 v.length) (fun w bt u hv=> ?_) (res:=res.av) (out:= [.sl t'.width (v'.map t'.row)]) (by rw[<-hSm,hargs]; exact k1) (PY hlook (by simpa using hvl)) hpl ⟨S3.st,m1,ih S3 m2 h⟩
      ·refine⟨rfl,rfl,rfl,fun p s rs hp=> ?_⟩;rw[tF] at hp;by_cases hpr:p.r=q
       ·rw[if_pos hpr,hgq] at hp;simp only at hp
        rcases T.put_spec .dd [(i,j)] (.sl t.width (l.map t.row)) (.inl (by have:=hlook;unfold St.look at this;simp only[hgq] at this;rw[this];simp)) p.l s rs hp with ⟨m',hm,hgo⟩| ⟨rs0,e1,e2,e3,e4⟩
        ·rw[T.dd_go] at hgo; cases hgo
        ·refine⟨fun p' hp' hu=> ?_,rs0,by unfold St.look; rw[hpr,hgq]; exact e1⟩;rw[az.1 hp'] at hu;obtain⟨_,m,b⟩:=hu;exact e3 m b.symm
       ·rw[if_neg hpr] at hp;refine⟨fun p' hp' hu=> ?_,rs,hp⟩;rw[az.1 hp'] at hu;exact hpr hu.1
      ·rw[eI,hxv] at hv;have hv:VR w bt (.own ⟨q,[(i,j)]⟩ t'.width 0 v.length) u:=hv;cases hv with
       |own hp hc hk ha=>exact .own du hc hk ha
     ·cases h
    ·cases h
   ·cases h
  ·cases h
theorem QC {el:Ty} (hw:el.width=1) (hf:el.flatB=true) {z:el.D} (hz:el.unflat el.zcs=some z): ∃zv,el.zvs= [zv] /\qI zv=true/\el.row z= [.sc zv] :=by
 have hr:el.row z=el.zcs.map C.tree:=by rw[el.row_flat,el.unflat_some _ _ hz]
 rw[hr];clear hr hz z;cases el with
 |i k=>exact⟨_,rfl,rfl,rfl⟩
 |b=>exact⟨_,rfl,rfl,rfl⟩
 |s=>exact⟨_,rfl,rfl,rfl⟩
 |st n=>cases n<;>first |exact⟨_,rfl,rfl,rfl⟩| (exfalso; revert hw; decide)| (exfalso; revert hf; decide)
 |ls t=>cases hf
theorem OQ (hΘ:iq P Θ) (hS:S.ok) {ops:Array Oper} {o:Oper} {os:List Oper} {Post:St->Prop} {t:TypeId} {q sz lo len:Nat} (ht:Iw S o=some (t,q,sz,lo,len)) {κ:TS->Option ρ} {r:ρ}
  (ih: ∀S3:TS,S3.ok->κ S3=some r->vE P ops os S3.st Post) (h:Mr Θ S t q sz lo len o.dst κ=some r):vE P ops (o::os) S.st Post:=by
 unfold Iw at ht;split at ht
 ·rename_i as ts hop;split at ht
  ·cases ht
  ·rename_i hgd;split at ht
   ·rename_i x t' e1 e2;split at ht
    ·rename_i r' sz' lo' len' w hx;simp only[af,an] at ht;obtain⟨rfl,rfl,rfl,rfl,rfl⟩:=ht;have e1:as= #[x] :=by apply Array.ext'; simpa using e1
     have e2:ts= #[t'] :=by apply Array.ext'; simpa using e2
     subst e1 e2;unfold Mr at h;split at h
     ·rename_i ti hti;split at h
      ·rename_i el l hq;obtain⟨hc,h0⟩:=eC h;simp only[aq,decide_eq_true_eq] at hc;obtain⟨⟨⟨hty,hw⟩,hsz⟩,hfl⟩:=hc;have hw:el.width=1:=au hw;have hsz:sz'=1:=au hsz;split at h0
       ·rename_i z hz;unfold eh at h0;split at h0
        ·rename_i hle;obtain⟨elT',g1,g2,g3,g4,g5,g6⟩:=(hΘ _ _ hti).el el hty
         have hql:r'<S.gh.length:=by
          rcases cm r' S.gh.length with h'|h'
          ·exact h'
          ·rw[yU h'] at hq; cases hq
         have hG:jV S.gh (gq S.gh r' (some ⟨el,l.take lo'++List.replicate len' z++l.drop (lo'+len'),none⟩)):=jV.put hq (by simp; omega);obtain⟨S3,k1,k2,_,h⟩:=nx (v:= .tup []) (TS.ok_gh hS hG) (fun x hx=>by cases hx) h0;rw[Cf S _ hql] at k1;obtain⟨zv,hzv,hsc,hrow⟩:=QC hw hfl hz
         have htr:S.st.gh r'=some (.sl 1 (l.map el.row)):=by show (gx S.gh r').map fr.tree=_;rw[hq];show some (T.sl el.width (l.map el.row))=_;rw[hw]
         have hxv:opd S.st x= .own ⟨r',[]⟩ 1 lo' len':=by rw[eI,hx,<-hsz]; rfl
         refine vE.clear hop hgd g1 (by rw[g6,hzv]) hsc hxv htr (by simpa using hle) ⟨S3.st,?_,ih S3 k2 h⟩;rw[<-k1]
         congr 1
         show _=({ S.st with gh:=fo S.st.gh r' (some (T.sl el.width ((l.take lo'++List.replicate len' z++l.drop (lo'+len')).map el.row))) }:St);rw[hw];simp only[cg,bW,cf,ec,hrow]
        ·cases h0
       ·cases h0
      ·cases h
     ·cases h
    ·cases ht
   ·cases ht
 ·cases ht
theorem SB (hΘ:iq P Θ) (hY:ou P Y) {ops:Array Oper}: ∀ (os:List Oper) (S:TS) (κ:TS->Option ρ) (r:ρ),(∀o∈os,qM P o=true)->S.ok->Dv Θ Y ops.toList os S κ=some r->
  vE P ops os S.st (fun S'=> ∃S1:TS,S'=S1.st/\S1.ok/\κ S1=some r):=by
 intro os
 induction os with
 |nil=>intro S κ r _ hS h; exact vE.nil ⟨S,rfl,hS,h⟩
 |cons o os ih=>
  intro S κ r hok hS h;unfold Dv at h;cases hn:D0 o with
  |some tx=>
   obtain⟨t,x⟩:=tx;rw[hn] at h;simp only at h;obtain⟨hs,h⟩:=eC h;obtain⟨⟨t',ho⟩,hg⟩:=IC hn;unfold Vd at hs;split at hs
   ·rename_i ti hti;split at hs
    ·rename_i e he;obtain⟨el,hel,_⟩:=(hΘ t ti hti).el e he;split at h
     ·rename_i t1 l hx
      have way: ∀ (b:Bool),(uH S o.dst (Kt b) fun S3=>Dv Θ Y ops.toList os S3 κ)=some r-> ∃S1,S.st.put o.dst (.sc (.bool b))=some S1/\vE P ops os S1 (fun S'=> ∃S1:TS,S'=S1.st/\S1.ok/\κ S1=some r):=by intro b hb;obtain⟨S3,g5,g6,_,h⟩:=nx (v:=Kt b) hS trivial hb;exact⟨S3.st,g5,ih S3 κ r (fun x hx=>hok x (aF _ hx)) g6 h⟩
      have hxv:opd S.st x= .ro t1.width (l.map t1.row):=by rw[eI,hx]; rfl
      cases l with
      |nil=>obtain⟨a1,a2⟩:=Qz (show Sg _ _ none=some r from h);exact vE.eqnil hel ho hg hxv (fun _=>way true a1) (way false a2)
      |cons y l=>exact vE.eqnil hel ho hg hxv (fun h=>by cases h) (way false h)
     ·cases h
    ·cases hs
   ·cases hs
  |none=>
  rw[hn] at h;simp only at h;cases hcl:Iw S o with
  |some z=>obtain⟨t,q,sz,lo,len⟩:=z;rw[hcl] at h;exact OQ hΘ hS hcl (fun S3 hS3 h3=>ih S3 κ r (fun x hx=>hok x (aF _ hx)) hS3 h3) h
  |none=>
  rw[hcl] at h;simp only at h;cases hh:Ks Y S o with
  |some z=>obtain⟨k,g,caps,q,sz,us,xs⟩:=z;rw[hh] at h;exact QB hΘ hY hS hh (fun S3 hS3 h3=>ih S3 κ r (fun x hx=>hok x (aF _ hx)) hS3 h3) h
  |none=>
  rw[hh] at h;simp only at h;cases hh':ET Y S o with
  |some z=>obtain⟨g,caps,a,us,xs⟩:=z;rw[hh'] at h;exact OP hΘ hY hS hh' (fun S3 hS3 h3=>ih S3 κ r (fun x hx=>hok x (aF _ hx)) hS3 h3) h
  |none=>
  rw[hh'] at h;simp only at h;obtain⟨b,S1,h1,h2,h3,h4,h⟩:=KG hS h;refine vE.cons (b:=b) (hok o aG) h1 ?_;cases b with
  |true=>simp only[cond_true] at h;obtain⟨D,v,S2,g1,g2,g3,g4,h⟩:=E9 hΘ hY h3 h;obtain⟨S3,g5,g6,_,h⟩:=nx g3 g4 h;rw[if_pos rfl];refine⟨D,S3.st,g1,?_,ih S3 κ r (fun x hx=>hok x (aF _ hx)) g6 h⟩;unfold one;rw[<-h2,g2];exact g5
  |false=>simp only[cond_false] at h;obtain⟨S3,g5,g6,_,h⟩:=nx (v:= .tup []) h3 (fun x hx=>by cases hx) h;rw[if_neg (by simp)];exact⟨S3.st,by rw[<-h2]; exact g5,ih S3 κ r (fun x hx=>hok x (aF _ hx)) g6 h⟩
theorem SC {D D':tD} {X:St} {o:Oper} (h:D o.dst=D' o.dst):eD D P X o=eD D' P X o:=by
 obtain⟨dst,op,ty,pos,aft,gd⟩:=o;cases op with
 |call c=>
  obtain⟨cl,as,ts⟩:=c;cases cl with
  |value f=>simp only[eD]; simp only at h; rw[h]
  |invoke a b=>rfl
  |builtin b=>cases b<;>rfl
 |unOp op t x=>cases op<;>rfl
 |binOp op t x y t'=>cases op<;>rfl
 |makeFunc fn first caps=>cases fn<;>rfl
 |slice t x lo hi mx=>cases mx<;>rfl
 | _=>rfl
theorem NL {D D':tD} {X:St} {o:Oper} (h:D o.dst=D' o.dst):iw D P X o=iw D' P X o:=by
 obtain⟨dst,op,ty,pos,aft,gd⟩:=o;cases op with
 |call c=>
  obtain⟨cl,as,ts⟩:=c;cases cl with
  |value f=>simp only[iw]; simp only at h; rw[h]
  |invoke a b=>rfl
  |builtin b=>cases b<;>rfl
 | _=>rfl
theorem Vj {D D':tD} {ops:Array Oper}: ∀ (os:List Oper) (X:St),(∀o∈os,D o.dst=D' o.dst)->Ed D P ops os X=Ed D' P ops os X:=by
 intro os
 induction os with
 |nil=>intro X _; rfl
 |cons o os ih=>intro X h;have h1:=h o aG;have h2: ∀X,Ed D P ops os X=Ed D' P ops os X:=fun X=>ih X (fun x hx=>h x (aF _ hx));simp only[Ed,h2,SC h1,NL h1]
theorem Fb: ∀ (l m:List (Option fr)) (n:Nat),gone n l (l++m)= []
 | [],m,n=>by cases m<;>rfl
 |x::l,m,n=>by
  cases x with
  |none=>exact Fb l m (n+1)
  |some y=>exact Fb l m (n+1)
theorem Mv (l:List fr):Qa (l.map some)=l.map fr.tree:=by unfold Qa;rw[bE];rfl
theorem SD (S:TS) (out:List fr):S.st.make ⟨S.st.ng,out.map fr.tree,[]⟩=({ S with gh:=S.gh++out.map some }:TS).st:=by
 rw[Aw S .dead out];unfold St.make pQ;simp only[aD]
 congr 1
theorem uP.make {S1:TS} {L:List Nat} (h:uP S S1 L) (x:fr):S.st.make ⟨S.st.ng,[x.tree],oy L⟩=({ S1 with gh:=S1.gh++ [some x] }:TS).st:=by
 rw[EW,h.st,h.len];unfold St.make dropL;simp only[bX,o6]
 congr 1
 funext r
 unfold fo;by_cases hr:r=S.gh.length
 ·subst hr;rw[if_pos rfl,if_pos ⟨ay _,df _⟩];simp[TS.st]
 ·rw[if_neg hr,if_neg (by show ¬ (S.gh.length<=r/\r<S.gh.length+1); omega)]
theorem NM: ∀ (l m x:List (Option fr)) (n:Nat) (L:List Nat),m.length=l.length->(∀k,k<l.length->(((∃y,l[k]? =some (some y))/\m[k]? =some none)↔(n+k)∈L))->gone n l (m++x)=(List.range' n l.length).filter fun r=>L.contains r
 | [],m,x,n,L,hl,_=>by have :m= [] :=bz hl;subst this;cases x<;>rfl
 |a::l,[],x,n,L,hl,_=>by cases hl
 |a::l,b::m,x,n,L,hl,h=>by
  have h0:=h 0 (Nat.zero_lt_succ _)
  have ih:=NM l m x (n+1) L (by simpa using hl) (fun k hk=>by have:=h (k+1) (by simpa using hk);simp only[ch] at this;rw[this,show n+1+k=n+(k+1) by omega])
  simp only[aK,af,cy] at h0;rw[bk,cE,List.filter_cons];cases a with
  |none=>
   have : ¬n∈L:=fun hn=>by obtain⟨⟨y,hy⟩,_⟩:=h0.2 hn;cases hy
   rw[if_neg (by simpa using this),<-ih];cases b<;>rfl
  |some y=>
   cases b with
   |none=>have :n∈L:=h0.1 ⟨⟨y,rfl⟩,rfl⟩;rw[if_pos (by simpa using this),<-ih];rfl
   |some z=>
    have : ¬n∈L:=fun hn=>by have:=(h0.2 hn).2;cases this
    rw[if_neg (by simpa using this),<-ih];rfl
theorem IE {L:List Nat} {N:Nat} (h: ∀r∈L,r<N):oy L=(List.range N).filter fun r=>L.contains r:=by
 have top:HX L<=N:=by
  induction L with
  |nil=>exact aI _
  |cons a l ih=>unfold HX;have h1:=h a aG;have h2:=ih (fun r hr=>h r (aF _ hr));omega
 unfold oy;obtain⟨k,rfl⟩: ∃k,N=HX L+k:=⟨N-HX L,by omega⟩
 rw[cH,cH,<-List.range'_append_1,bQ]
 have : (List.range' (0+HX L) k).filter (fun r=>L.contains r)= [] :=by rw[List.filter_eq_nil_iff];intro r hr hc;have h1:=H8 (l:=L) (r:=r) (by simpa using hc);have h2:=(List.mem_range'_1.1 hr).1;omega
 rw[this,bH]
theorem uP.gone {S1:TS} {L:List Nat} (h:uP S S1 L) (x:List (Option fr)):gone 0 S.gh (S1.gh++x)=oy L:=by
 rw[IE (N:=S.gh.length) (fun r hr=>by obtain⟨tr,ht⟩:=h.was r hr;exact yV ht),cH]
 refine NM _ _ _ _ _ h.len (fun k hk=> ?_);rw[aU];have g:=h.gh k;unfold gx at g;rw[gR,gR] at g;have hk1:k<S1.gh.length:=by rw[h.len]; exact hk
 rw[ah hk,ah hk1] at g ⊢;simp only[aP,af] at g ⊢;constructor
 ·rintro⟨⟨y,hy⟩,hn⟩
  rw[hn,hy] at g;split at g
  ·rename_i hc;simpa using hc
  ·cases g
 ·intro hL;obtain⟨tr,ht⟩:=h.was k hL;unfold gx at ht;rw[gR,ah hk] at ht;simp only[aP] at ht;rw[if_pos (by simpa using hL)] at g;exact⟨⟨tr,ht⟩,g⟩
theorem yX {G:List (Option fr)} {r j:Nat} {c:Cl} (h:c.ok G) (hr:G.length<=r):sI r j c=c:=by
 have hb: ∀p:fj,p.r<G.length->Nat.beq p.r r=false:=fun p hp=>by
  cases hx:Nat.beq p.r r with
  |false=>rfl
  |true=>have:=au hx;omega
 cases c with
 |own p sz lo len w=>simp only[sI];rw[hb p h.1];split<;>rfl
 |ptrT p sz a b=>simp only[sI];rw[hb p h];split<;>rfl
 | _=>rfl
theorem tN {α:Type} {f:α->α}: ∀ {l:List α},(∀x∈l,f x=x)->l.map f=l
 | [],_=>rfl
 |a::l,h=>by rw[aZ,h a aG,tN fun x hx=>h x (aF _ hx)]
theorem KJ (hS:S.ok) {r j:Nat} (hr:S.gh.length<=r):S.kill r j=S:=by
 have v1: ∀v:V1,v.ok S.gh->vf r j v=v:=by
  intro v hv;cases v with
  |cl c=>simp only[vf]; rw[yX hv hr]
  |agg cs=>simp only[vf]; rw[tN fun c hc=>yX (hv c hc) hr]
  |fn f cs=>simp only[vf]; rw[tN fun c hc=>yX (hv c hc) hr]
 have e1:S.env.map (fun x=>(x.1,Hu r j x.2))=S.env:=by
  refine tN (fun x hx=> ?_);have hx:=hS.env x hx;obtain⟨t,v⟩:=x;cases v with
  |v x=>simp only[Hu]; rw[v1 x hx]
  |tup l=>simp only[Hu]; rw[tN fun c hc=>v1 c (hx c hc)]
 have e2:S.bx.map (fun cs=>cs.map (sI r j))=S.bx:=by exact tN (fun cs hcs=>tN (fun c hc=>yX (hS.bx cs hcs c hc) hr))
 unfold TS.kill;rw[e1,e2]
theorem SE (hS:S.ok) {S1:TS} {no j:Nat} (hno:S.gh.length<=no) {et:Option Ty} {c:Cl} {x:C} (hc:c.ok S.gh) (h:kC S no j et c=some (x,S1)):
  ∃L,uP S S1 L/\L.Nodup/\nD S.st (E5 et) c.av=some (x.tree,L):=by
 have wp: ∀t:Ty,¬E5 (some t)=0:=fun t e=>by have:=t.width_pos;have e':t.width=0:=e;omega
 cases c with
 |c y=>
  cases y with
  |sc v=>
   cases et with
   |none=>simp only[kC,af,an] at h;obtain⟨rfl,rfl⟩:=h;exact⟨[],uP.refl _,dZ,rfl⟩
   |some t=>simp[kC] at h
  |ls t l=>cases et<;>simp[kC] at h
 |em=>
  cases et with
  |none=>simp[kC] at h
  |some t=>simp only[kC,af,an] at h;obtain⟨rfl,rfl⟩:=h;rw[KJ hS hno];refine⟨[],uP.refl _,dZ,?_⟩;unfold nD;rw[if_neg (wp t)];rfl
 |own p sz lo len wh=>
  obtain⟨pr,pl⟩:=p;cases wh with
  |false=>cases et<;>simp[kC] at h
  |true=>
   cases et with
   |none=>simp[kC] at h
   |some t=>
    cases pl with
    |cons a l=>simp[kC] at h
    |nil=>
     simp only[kC] at h;obtain⟨h1,h⟩:=eC h;simp only[aq,bV] at h1;obtain⟨⟨h1,h2⟩,h3⟩:=h1;have h1:t.width=sz:=au h1;have h2:S.fz<=pr:=aA h2;split at h
     ·rename_i tr htr;split at h
      ·rename_i hh;obtain⟨h4,h⟩:=eC h;have h4':tr.t.width=sz:=au h4;simp only[af,an] at h;obtain⟨rfl,rfl⟩:=h;have hg:=fr.look htr;obtain⟨tt,l,hole⟩:=tr;simp only at hh h4';subst hh;obtain⟨e1,e2,e3⟩:=xJ hc (fun _=>hg);have hd:=uP.one hg;rw[KJ (hd.ok hS) (by rw[hd.len]; exact hno)];refine⟨[pr],hd,by simp,?_⟩;unfold nD;rw[if_neg (wp t)];simp only[Cl.av]
       have hrows:S.st.rows ⟨pr,[]⟩ sz=some (l.map tt.row):=by rw[<-h4'];refine nw ?_;unfold St.look;show (match (gx S.gh pr).map fr.tree with |some t=>t.go [] |none=> .dd)=_;rw[hg];rfl
       rw[if_pos ⟨trivial,h1.symm,e2,h2⟩,hrows];simp only[ae,aD];rw[if_pos (by omega),e3];have e4: (l.map tt.row).take l.length=l.map tt.row:=bh (by simp);rw[e4];simp only[C.tree,h4']
      ·cases h
     ·cases h
 |pro cs=>cases et<;>simp[kC] at h
 |ptrB n j=>cases et<;>simp[kC] at h
 |ptrT p sz a b=>cases et<;>simp[kC] at h
 |dead=>cases et<;>simp[kC] at h
theorem Mw {X Y:St} (hfz:Y.fz=X.fz) (hg: ∀r t,Y.gh r=some t->X.gh r=some t) {s:Nat} {v:AV} {y:T×List Nat} (h:nD Y s v=some y):nD X s v=some y:=by
 unfold nD at h ⊢;split at h
 ·rename_i h0; rw[if_pos h0]; exact h
 ·rename_i h0;rw[if_neg h0];split at h
  ·exact h
  ·rename_i q s' lo len;split at h
   ·rename_i hc;rw[hfz] at hc;rw[if_pos hc];simp only[aj] at h ⊢;obtain⟨rows,hr,h⟩:=h;refine⟨rows,?_,h⟩;have hl:=lP hr;unfold St.rows
    have :X.look q= .sl s' rows:=by
     unfold St.look at hl ⊢;cases hq:Y.gh q.r with
     |none=>rw[hq] at hl; cases hl
     |some t=>rw[hq] at hl; rw[hg _ _ hq]; exact hl
    rw[this];simp
   ·cases h
  ·cases h
theorem xL {X Y:St} (hfz:Y.fz=X.fz) (hg: ∀r t,Y.gh r=some t->X.gh r=some t): ∀ {ss:List Nat} {vs:List AV} {y:List T×List Nat},kh Y ss vs=some y->kh X ss vs=some y
 |s::ss,v::vs,y,h=>by unfold kh at h ⊢;simp only[aj,ak] at h ⊢;obtain⟨a,h1,b,h2,h3⟩:=h;exact⟨a,Mw hfz hg h1,b,xL hfz hg h2,h3⟩
 | [],[],_,h=>h
 | [],_::_,_,h=>h
 | _::_,[],_,h=>h
theorem C5 {X Y:St} (hfz:Y.fz=X.fz) (hg: ∀r t,Y.gh r=some t->X.gh r=some t) {ss:List Nat}: ∀ {vss:List (List AV)} {y:List (List T)×List Nat},i4 Y ss vss=some y->i4 X ss vss=some y
 | [],_,h=>h
 |vs::vss,y,h=>by unfold i4 at h ⊢;simp only[aj,ak] at h ⊢;obtain⟨a,h1,b,h2,h3⟩:=h;exact⟨a,xL hfz hg h1,b,C5 hfz hg h2,h3⟩
theorem uP.less {S1:TS} {L:List Nat} (h:uP S S1 L): ∀r t,S1.st.gh r=some t->S.st.gh r=some t:=by
 intro r t ht;rw[h.st] at ht;unfold dropL at ht;simp only at ht;split at ht
 ·cases ht
 ·exact ht
theorem SF (no:Nat): ∀ (ets:List (Option Ty)) (cs:List Cl) (j:Nat) (S S1:TS) (xs:List C),S.ok->S.gh.length<=no->(∀c∈cs,c.ok S.gh)->sJ no j S ets cs=some (xs,S1)->
  ∃L,uP S S1 L/\L.Nodup/\kh S.st (ets.map E5) (cs.map Cl.av)=some (xs.map C.tree,L):=by
 intro ets
 induction ets with
 |nil=>
  intro cs j S S1 xs hS hno hcs h;cases cs with
  |nil=>simp only[sJ,af,an] at h;obtain⟨rfl,rfl⟩:=h;exact⟨[],uP.refl _,dZ,rfl⟩
  |cons c cs=>simp[sJ] at h
 |cons et ets ih=>
  intro cs j S S1 xs hS hno hcs h;cases cs with
  |nil=>simp[sJ] at h
  |cons c cs=>
   simp only[sJ] at h;split at h
   ·rename_i x S2 hx;obtain⟨L1,d1,n1,e1⟩:=SE hS hno (hcs c aG) hx;split at h
    ·rename_i xs' S3 hxs;simp only[af,an] at h;obtain⟨rfl,rfl⟩:=h;obtain⟨L2,d2,n2,e2⟩:=ih cs (j+1) S2 S3 xs' (d1.ok hS) (by rw[d1.len]; exact hno) (fun y hy=>Cl.ok_mono d1.le (hcs y (aF _ hy))) hxs;refine⟨L1++L2,d1.trans d2,d1.apart d2 n1 n2,?_⟩;simp only[aZ,kh];rw[e1];simp only[ae];rw[xL (X:=S.st) (Y:=S2.st) d1.fz d1.less e2];rfl
    ·cases h
   ·cases h
theorem QD (el:Ty): ∀ (vs:List V) (S S1:TS) (l:List el.D),S.ok->(∀v∈vs,v.ok S.gh)->vg el S vs=some (l,S1)->
  ∃L,uP S S1 L/\L.Nodup/\i4 S.st el.shs (vs.map fun v=>v.av.cells)=some (l.map el.row,L)/\l.length=vs.length/\ ∀v∈vs,v.av.cells.length=el.width/\v.av.isDead=false:=by
 intro vs
 induction vs with
 |nil=>intro S S1 l hS hv h;simp only[vg,af,an] at h;obtain⟨rfl,rfl⟩:=h;exact⟨[],uP.refl _,dZ,rfl,rfl,fun v hv=>by cases hv⟩
 |cons v vs ih=>
  intro S S1 l hS hv h;cases v with
  |tup x=>simp[vg] at h
  |v x=>
   have hx:=hv (.v x) aG;simp only[vg] at h;split at h
   ·rename_i ws S2 hw
    have hcells: ∀c∈x.cells,c.ok S.gh:=by
     intro c hc;cases x with
     |cl y=>rw[az.1 hc]; exact hx
     |agg cs=>exact hx c hc
     |fn f cs=>rw[az.1 hc]; trivial
    obtain⟨L1,d1,n1,e1⟩:=SF _ _ _ _ _ _ _ hS (ay _) hcells hw
    have hw':el.csh.length=x.cells.length/\ ∀c∈x.cells,c≠ .dead:=by obtain⟨_,m2,_,m4,_⟩:=E6 S.gh.length 0 0 0 el.csh x.cells 0 S S2 ws [x.cells.map fun c=>T.ofSc c.av] (x.cells.map fun c=>T.ofSc c.av) hS hcells hw rfl (by simp) (fun k c hk=>by rw[aU,ar,hk]; rfl);exact⟨m2,m4⟩
    split at h
    ·rename_i y ys S3 hy hys;simp only[af,an] at h;obtain⟨rfl,rfl⟩:=h;obtain⟨L2,d2,n2,e2,e3,e4⟩:=ih S2 S3 ys (d1.ok hS) (fun u hu=>V.ok_mono d1.le (hv u (aF _ hu))) hys
     have hsh:el.shs=el.csh.map E5:=by unfold Ty.shs;refine aL fun c _=> ?_;cases c<;>rfl
     have hav: (V.v x).av.cells=x.cells.map Cl.av:=by
      cases x with
      |cl c=>
       simp only[V.av,V1.av,V1.cells,aZ,ct];cases c with
       |c y=>cases y<;>rfl
       | _=>rfl
      |agg cs=>rfl
      |fn f cs=>exact absurd rfl (hw'.2 .dead (az.2 rfl))
     refine⟨L1++L2,d1.trans d2,d1.apart d2 n1 n2,?_,by simp[e3],fun u hu=> ?_⟩
     ·simp only[aZ,i4];rw[hav,hsh,e1];simp only[ae];rw[<-hsh,C5 (X:=S.st) (Y:=S2.st) d1.fz d1.less e2];simp only[aB];rw[el.row_flat,el.unflat_some _ _ hy]
     ·rcases aW.1 hu with rfl|hu
      ·refine⟨?_,?_⟩
       ·rw[hav,aD,<-hw'.1];have:=Ax el;unfold Ty.shs at this;simpa using this
       ·cases x with
        |cl c=>
         have:=hw'.2 c (az.2 rfl);cases c with
         |c y=>cases y<;>rfl
         |dead=>exact absurd rfl this
         | _=>rfl
        |agg cs=>rfl
        |fn f cs=>rfl
      ·exact e4 u hu
    ·cases h
   ·cases h
theorem QE (hΘ:iq P Θ) {t:TypeId} (h:Wa Θ t=true): ∃ti el elT',oA Θ t=some ti/\ti.ty= .ls el/\yH P t=some elT'/\P.cellsOf elT'=el.width/\P.bytesOf elT'=ti.el/\0<ti.el/\pP P 9 elT'=el.shs/\BP P elT'=some el.zvs:=by
 unfold Wa at h;split at h
 ·rename_i ti hti;split at h
  ·rename_i el he;obtain⟨elT',g⟩:=(hΘ _ _ hti).el el he;exact⟨ti,el,elT',hti,he,g⟩
  ·cases h
 ·cases h
theorem SG {el:Ty} {v:Cl} (hv:v.ok S.gh) {κ:List el.D->TS->Option ρ} {r:ρ} (h:P7 S el v κ=some r):
  ∃more L S1,uP S S1 L/\jq S.st el.width el.flatB v.av=some (more.map el.row,L)/\κ more S1=some r:=by
 unfold P7 at h;split at h
 ·exact⟨[],[],S,uP.refl _,rfl,h⟩
 ·rename_i t l;obtain⟨h1,h⟩:=eC h;split at h
  ·rename_i l' hl;obtain⟨e,hl⟩:=iK hl;subst e;simp only at hl;subst hl;refine⟨l,[],S,uP.refl _,?_,h⟩;simp only[Cl.av,C.av,jq];rw[if_pos ⟨trivial,yW h1 l⟩]
  ·cases h
 ·rename_i p sz lo len w;obtain⟨h0,h⟩:=eC h;have h0:el.width=sz:=au h0;cases hfl:el.flatB with
  |true=>
   rw[hfl] at h;simp only[cond_true] at h;obtain⟨t,l,h1,h2,h⟩:=jd h;split at h
   ·rename_i l' hl;obtain⟨e,hl⟩:=iK hl;subst e;simp only at hl;subst hl
    have src: ∀ (lo len:Nat),lo+len<=l.length->jq S.st t.width true (.own p sz lo len)=some (((l.drop lo).take len).map t.row,[]):=by intro lo len hle;simp only[jq];rw[if_pos h0.symm,nw h1];simp only[ae,aD];rw[if_neg (by simp),if_pos ⟨hle,by rw[<-cf,<-bW]; exact yW hfl _⟩];simp[bW,cf]
    cases w with
    |true=>obtain⟨e1,e2,e3⟩:=xJ hv h2;refine⟨l,[],S,uP.refl _,?_,h⟩;have:=src lo len (by omega);rw[e2,e3,bJ,be] at this;simp only[Cl.av];rw[e2,e3];exact this
    |false=>simp only[cond_false] at h;obtain⟨h3,h⟩:=fR h;exact⟨_,[],S,uP.refl _,src lo len h3,h⟩
   ·cases h
  |false=>
   rw[hfl] at h;simp only[cond_false] at h;split at h
   ·rename_i hpl;obtain⟨h1,h'⟩:=eC h;clear h;simp only[aq] at h1;obtain⟨rfl,hfz⟩:=h1;have hfz:S.fz<=p.r:=aA hfz;obtain⟨t,l,g1,g2,h⟩:=jd h';split at h
    ·rename_i l' hl;obtain⟨e,hl⟩:=iK hl;subst e;simp only at hl;subst hl;obtain⟨e1,e2,e3⟩:=xJ hv g2;refine⟨l,[p.r],_,uP.one (g2 e1),?_,h⟩;simp only[Cl.av,jq];rw[if_pos h0.symm,nw g1];simp only[ae,aD];rw[if_pos ⟨trivial,e1,e2,e3,hfz⟩]
    ·cases h
   ·cases h
 ·cases h
theorem QF {el:Ty} {v:Cl} (hv:v.ok S.gh) (hroot:Nz (.v (.cl v))=true) {more:List el.D} {κ:List el.D->TS->Option ρ} {r:ρ} (h:Kr S el v more κ=some r):
  ∃ (l0:List el.D) (cons:List Nat) (S':TS),pv S.st el.width v.av=some (l0.map el.row,cons)/\uP S S' cons/\κ (l0++more) S'=some r:=by
 unfold Kr at h;split at h
 ·exact⟨[],[],S,rfl,uP.refl _,h⟩
 ·rename_i p sz lo len w;obtain⟨pr,pl⟩:=p;cases pl with
  |cons a l=>cases hroot
  |nil=>
   obtain⟨h0,h'⟩:=eC h;clear h;simp only[aq] at h0;have hfz:S.fz<=pr:=aA h0.1;have hsz:el.width=sz:=au h0.2;simp only at h';obtain⟨t,l,h1,h2,h⟩:=jd h';split at h
   ·rename_i l' hl;obtain⟨e,hl⟩:=iK hl;subst e;simp only at hl;subst hl
    have base: ∀ (len:Nat),¬l.length<len->pv S.st t.width (.own ⟨pr,[]⟩ sz 0 len)=some ((l.take len).map t.row,[pr]):=by intro len hlen;simp only[pv];rw[if_pos ⟨hsz.symm,trivial,trivial,hfz⟩,nw h1];simp only[ae,aD];rw[if_neg hlen,bW]
    cases w with
    |true=>obtain⟨e1,e2,e3⟩:=xJ hv h2;refine⟨l,[pr],_,?_,uP.one (h2 rfl),h⟩;have:=base l.length (by omega);rw[be] at this;simp only[Cl.av];rw[e2,e3];exact this
    |false=>simp only[cond_false] at h;obtain⟨h3,h⟩:=fR h;obtain⟨h4,h⟩:=Cb h;refine⟨l.take len,[pr],_,?_,uP.one (h2 rfl),h⟩;simp only[Cl.av];rw[h3];exact base len h4
   ·cases h
 ·cases h
theorem SH (hΘ:iq P Θ) (hY:ou P Y) (hS:S.ok) {o:Oper} (hn:fQ o=true) (hf:Vf Θ o=true) (hb:TQ S o=true) {κ:V->TS->Option ρ} {r:ρ} (h:zD Θ Y S o κ=some r):
  ∃D v0 v adds cons S',oF P D/\iw D P S.st o=some (v0,adds,cons)/\shift S.st.ng v0=V.av v/\S.st.make ⟨S.st.ng,adds,cons⟩=TS.st S'/\B9 S S'=⟨S.st.ng,adds,cons⟩/\S'.ok/\v.ok S'.gh/\κ v S'=some r:=by
 obtain⟨dst,op,ty,pos,aft,gd⟩:=o;cases op with
 |buildSlice t len parts=>
  obtain⟨ti,el,elT',hti,he,g1,g2,g3,g4,g5,g6⟩:=QE hΘ hf;unfold zD at h;simp only[hti,he] at h;obtain⟨hb',h'⟩:=eC h;clear h
  have hnr: ((parts.toList.map fun x=>S.opd x.2).any ES)=false:=by have hb: (!(parts.toList.map fun x=>S.opd x.2).any ES)=true:=hb;simpa using hb
  rw[hnr] at h';simp only[cond_false] at h';split at h'
  ·rename_i l S1 hp
   have hvok: ∀v∈parts.toList.map (fun x=>S.opd x.2),v.ok S.gh:=fun v hv=>by obtain⟨y,_,rfl⟩:=aM.1 hv;exact nI hS _
   obtain⟨L,d,hnd,m1,m2,m3⟩:=QD el _ S S1 l hS hvok hp;simp only[aq] at hb';have hb1:len*el.width<=1048576:=aA hb'.1;have hb2:=IA hb'.2
   have hlen:l.length=len:=by rw[m2];have:=congrArg List.length hb2;simpa using this
   refine⟨JI, .own ⟨0,[]⟩ el.width 0 len,_,[.sl el.width (l.map el.row)],oy L,{ S1 with gh:=S1.gh++ [some ⟨el,l,none⟩] },kG,?_,?_,d.make ⟨el,l,none⟩,?_,TS.ok_gh (d.ok hS) (jV.app _ _),?_,h'⟩
   ·simp only[iw,g1,ae]
    rw[if_pos ⟨by rw[g2]; exact hb1,hb2,by rw[g2]; exact el.width_pos,by rw[g6]; rfl,by rw[ax];intro y hy;obtain⟨q1,q2⟩:=m3 (S.opd y.2) (aM.2 ⟨y,hy,rfl⟩);simp only[eI,q1,q2,g2];rfl⟩]
    have e: (parts.toList.map fun x=>(opd S.st x.2).cells)=(parts.toList.map fun x=>S.opd x.2).map fun v=>v.av.cells:=by rw[bE];exact aL fun x _=>by simp only[eI,Function.comp]
    rw[e,g5,m1];simp only[ae];rw[if_pos (DY.2 hnd),g2]
   ·simp only[shift,ox,qJ,V.av,V1.av,Cl.av,aU,hlen];rw[d.len];rfl
   ·unfold B9;simp only;rw[d.gone,dv (by rw[d.len]; exact ay _),cu (by rw[d.len]; exact ay _)];rfl
   ·refine⟨by simp,fun _=>⟨rfl,rfl,fun tr htr=> ?_⟩⟩;rw[nJ,if_pos rfl] at htr;cases htr;rfl
  ·cases h'
 |call c=>
  obtain⟨cl,as,ts⟩:=c;cases cl with
  |invoke a b=>cases hn
  |value f=>
   unfold zD at h;simp only at h
   have fin: ∀ (g:FuncId) (caps:List AV) (vs:List V1),g<kB->callee S.st f=some (g,caps)->args P S.st ts as caps=vs.map V1.av->Y g vs ρ (fun res out=>κ (ww S.gh.length res) { S with gh:=S.gh++out.map some })=some r->
     ∃D v0 v adds cons S',oF P D/\iw D P S.st ⟨dst, .call { callee:= .value f,args:=as,argTypes:=ts },ty,pos,aft,gd⟩=some (v0,adds,cons)/\shift S.st.ng v0=V.av v/\S.st.make ⟨S.st.ng,adds,cons⟩=TS.st S'/\B9 S S'=⟨S.st.ng,adds,cons⟩/\S'.ok/\v.ok S'.gh/\κ v S'=some r:=by
    intro g caps vs hg h1 h2 h3;obtain⟨res,out,h4,h5,h6⟩:=hY _ _ _ _ _ h3;have h4:=h4.fn hg;refine⟨OK dst g (vs.map V1.av) (res.av,out.map fr.tree),res.av,_,out.map fr.tree,[],_,EY h4,?_,?_,SD S out,?_,TS.ok_gh hS (jV.apps _ _),Ch h5,h6⟩
    ·simp only[iw,h1,ae,h2];rw[NH];rfl
    ·rw[Cg]; rfl
    ·unfold B9;simp only[Fb,dv (ay _),List.drop_length,bo,Mv];rfl
   unfold Nx at h;split at h
   ·rename_i g x y hf';obtain⟨hg,h⟩:=eC h;have hg:g<kB:=aA hg;obtain⟨vs,h1,h⟩:=vJ hΘ hS _ _ _ _ h;refine fin g [] vs hg ?_ ?_ h
    ·unfold callee;rw[eI,hf'];rfl
    ·unfold args;simp only[ct,bH];exact h1
   ·rename_i g caps hf';obtain⟨hg,h⟩:=eC h;have hg:g<kB:=aA hg;obtain⟨vs,h1,h⟩:=vJ hΘ hS _ _ _ _ h
    have hcaps: ∀c∈caps,c.ok S.gh:=by have:=nI hS f;rw[hf'] at this;exact this
    obtain⟨cs,h2,h⟩:=Bh hS _ _ _ hcaps h;refine fin g (caps.map Cl.av) (vs++cs.map .cl) hg ?_ ?_ h
    ·unfold callee;rw[eI,hf'];rfl
    ·unfold args;rw[h1,h2,cg,bE];rfl
   ·cases h
  |builtin b=>
   cases b with
   |append=>
    unfold zD at h;simp only at h;split at h
    ·rename_i s x t t' e1 e2;have hbb: ((match ts.toList with | [t,t'] =>Nat.beq t t'| _=>true)&&(match as.toList with |s::_=>Nz (S.opd s)| [] =>true))=true:=hb;rw[e1,e2] at hbb;simp only[aq] at hbb;rw[hbb.1] at h;simp only[cond_true] at h;have h':=h;have ht:t=t':=au hbb.1;clear h;have e1:as= #[s,x] :=by apply Array.ext'; simpa using e1
     have e2:ts= #[t,t'] :=by apply Array.ext'; simpa using e2
     subst e1 e2;subst ht;obtain⟨ti,el,elT',hti,he,g1,g2,g3,g4,g5,g6⟩:=QE hΘ hf;unfold Sf at h';simp only[hti] at h';split at h'
     ·rename_i el' sv xv he' hs hx;rw[he] at he';cases he';have hsv:=nI hS s;rw[hs] at hsv;have hxv:=nI hS x;rw[hx] at hxv;obtain⟨more,L,S1,d1,q1,h⟩:=SG (show xv.ok S.gh from hxv) h';have hroot:Nz (.v (.cl sv))=true:=by rw[<-hs]; exact hbb.2
      obtain⟨l0,cons,S2,q2,d2,h⟩:=QF (show sv.ok S1.gh from Cl.ok_mono d1.le hsv) hroot h;obtain⟨hbd,h⟩:=fR h;have hlen: (l0++more).length<=2 ^ 40:=bF (dI _ g4) hbd;have hll: (l0++more).length=l0.length+more.length:=by simp
      have d:=d1.trans d2;refine⟨JI, .own ⟨0,[]⟩ el.width 0 (l0.length+more.length),_,[.sl el.width ((l0++more).map el.row)],oy (L++cons),{ S2 with gh:=S2.gh++ [some ⟨el,l0++more,none⟩] },kG,?_,?_,d.make ⟨el,l0++more,none⟩,?_,TS.ok_gh (d.ok hS) (jV.app _ _),?_,h⟩
      ·simp only[iw];rw[if_pos trivial,g1];simp only[ae,g2,g5,Ci,eI,hs,hx];show (jq S.st el.width el.flatB xv.av).bind _=_;rw[q1];simp only[ae];show (pv (dropL S.st L) el.width sv.av).bind _=_;rw[<-d1.st,q2];simp only[ae,aD];rw[if_pos ⟨by rw[g3,<-hll]; exact hbd,by rw[<-hll]; exact hlen,el.width_pos,by rw[D4 g2 g5 g6]; rfl⟩,cg]
      ·simp only[shift,ox,qJ,V.av,V1.av,Cl.av,aU,hll];rw[d.len];rfl
      ·unfold B9;simp only;rw[d.gone,dv (by rw[d.len]; exact ay _),cu (by rw[d.len]; exact ay _)];rfl
      ·refine⟨by simp,fun _=>⟨rfl,rfl,fun tr htr=> ?_⟩⟩;rw[nJ,if_pos rfl] at htr;cases htr;rfl
     ·cases h'
    ·cases h
   | _=>cases hn
 | _=>cases hn
end
end
section
open Go
section
variable {ρ:Type} {P:Program} {Θ:qG} {S:TS} {Y:BQ}
open Classical in
noncomputable def Bl (d:Option Tmp) (D1 D2:tD):tD:=fun d'=>if d'=d then D1 d' else D2 d'
theorem KK {d:Option Tmp} {D1 D2:tD} (h1:oF P D1) (h2:oF P D2):oF P (Bl d D1 D2):=by
 intro d' f args gs res out h;unfold Bl at h;split at h
 ·exact h1 _ _ _ _ _ _ h
 ·exact h2 _ _ _ _ _ _ h
theorem QG (d:Option Tmp) (D1 D2:tD):Bl d D1 D2 d=D1 d:=by unfold Bl; rw[if_pos rfl]
theorem QH {d d':Option Tmp} (D1 D2:tD) (h:d'≠d):Bl d D1 D2 d'=D2 d':=by unfold Bl; rw[if_neg h]
theorem SJ (hΘ:iq P Θ) (hY:ou P Y) {ops:Array Oper}: ∀ (os:List Oper) (S:TS) (ms:List ki) (κ:TS->List ki->Option ρ) (r:ρ),S.ok->Ku Θ Y ops.toList os S ms κ=some r->
  ∃D SV ms',oF P D/\Ed D P ops os S.st=some (TS.st SV,ms')/\SV.ok/\κ SV (ms++ms')=some r:=by
 intro os
 induction os with
 |nil=>intro S ms κ r hS h; exact⟨JI,S,[],kG,rfl,hS,by rw[bH]; exact h⟩
 |cons o os ih=>
  intro S ms κ r hS h;unfold Ku at h;cases hst:ez o with
  |true=>
   rw[hst] at h;simp only[cond_true] at h;obtain⟨D,SV,ms',h1,h2,h3,h4⟩:=ih _ _ _ _ hS h;refine⟨D,SV,⟨S.gh.length,[],[]⟩::ms',h1,?_,h3,?_⟩
   ·simp only[Ed,hst,if_true,h2,aB];rfl
   ·rw[aR] at h4;exact h4
  |false=>
   rw[hst] at h;simp only[cond_false] at h;cases hbo:gA o with
   |true=>
    rw[hbo] at h;simp only[cond_true] at h;cases hgn:o.guard.isNone with
    |false=>rw[hgn] at h; cases h
    |true=>
    rw[hgn] at h;simp only[cond_true] at h;obtain⟨S3,g5,g6,_,h⟩:=nx (v:=V.v (.cl (.ptrB (S.bx.length-1-gv os) 0))) hS trivial h;obtain⟨D,SV,ms',k1,k2,k3,k4⟩:=ih _ _ _ _ g6 h;refine⟨D,SV,⟨S.gh.length,[],[]⟩::ms',k1,?_,k3,?_⟩
    ·simp only[Ed,hst,bg,if_false,hbo,if_true,hgn];rw[show S.st.put o.dst (.ptrB (S.st.nb-1-gv os) 0)=some S3.st from g5];simp only[ae,k2,aB];rfl
    ·rw[aR] at k4;exact k4
   |false=>
   rw[hbo] at h;simp only[cond_false] at h;obtain⟨b,S1,h1,h2,h3,h4,h⟩:=KG hS h;have hng:S.st.ng=S1.st.ng:=by rw[h2]
   cases b with
   |false=>
    simp only[cond_false] at h;obtain⟨S3,g5,g6,_,h⟩:=nx (v:= .tup []) h3 (fun x hx=>by cases hx) h;obtain⟨D,SV,ms',k1,k2,k3,k4⟩:=ih _ _ _ _ g6 h;refine⟨D,SV,⟨S1.gh.length,[],[]⟩::ms',k1,?_,k3,?_⟩
    ·simp only[Ed,hst,hbo,bg,if_false,h1,ae];rw[<-h2,show S1.st.put o.dst (.tup [])=some S3.st from g5];simp only[ae,k2,aB];rfl
    ·rw[aR] at k4;exact k4
   |true=>
    simp only[cond_true] at h;cases hnw:fQ o with
    |false=>
     rw[hnw] at h;simp only[cond_false] at h;obtain⟨v,S2,m1,m2,m3,m4,m5,h⟩:=Cd (D:=JI) hΘ h3 h;obtain⟨S3,g5,g6,_,h⟩:=nx m3 (by rw[m4]; exact m5) h;obtain⟨D,SV,ms',k1,k2,k3,k4⟩:=ih _ _ _ _ g6 h;refine⟨D,SV,⟨S1.gh.length,[],[]⟩::ms',k1,?_,k3,?_⟩
     ·have hV:eD D P S1.st o=some v.av:=by
       rw[<-m1]
       have : ∀D':tD,eD D P S1.st o=eD D' P S1.st o:=by
        intro D';obtain⟨dst,op,ty,pos,aft,gd⟩:=o;cases op with
        |call c=>
         obtain⟨cl,as,ts⟩:=c;cases cl with
         |value f=>cases hnw
         |invoke a b=>rfl
         |builtin b=>cases b<;>rfl
        |unOp op t x=>cases op<;>rfl
        |binOp op t x y t'=>cases op<;>rfl
        |makeFunc fn first caps=>cases fn<;>rfl
        |slice t x lo hi mx=>cases mx<;>rfl
        | _=>rfl
       exact this JI
      simp only[Ed,hst,hbo,bg,if_false,h1,ae,if_true,hnw];rw[<-h2,hV];simp only[ae];rw[<-m2,g5];simp only[ae,k2,aB];rw[m2]; first |rfl|skip
     ·rw[aR] at k4;exact k4
    |true=>
     rw[hnw] at h;simp only[cond_true] at h;obtain⟨hc,h⟩:=eC h;simp only[aq] at hc;obtain⟨D1,v0,v,adds,cons,S2,m1,m2,m3,m4,m5,m6,m7,h⟩:=SH hΘ hY h3 hnw hc.1.2 hc.2 h;obtain⟨S3,g5,g6,_,h⟩:=nx m6 m7 h;obtain⟨D,SV,ms',k1,k2,k3,k4⟩:=ih _ _ _ _ g6 h;refine⟨Bl o.dst D1 D,SV,⟨S1.st.ng,adds,cons⟩::ms',KK m1 k1,?_,k3,?_⟩
     ·have hN:iw (Bl o.dst D1 D) P S1.st o=some (v0,adds,cons):=by
       rw[<-m2];exact NL (QG _ _ _)
      have hrest:Ed (Bl o.dst D1 D) P ops os S3.st=some (SV.st,ms'):=by
       rw[<-k2];refine Vj os _ (fun o' ho'=>QH _ _ (fun e=> ?_));have hl:=hc.1.1;unfold Ve at hl;split at hl
       ·rename_i d hd;have:=ax.1 hl o' ho';unfold TP at this;rw[e,hd] at this;simp only[cI,aY] at this;cases this
       ·cases hl
      simp only[Ed,hst,hbo,bg,if_false,h1,ae,if_true,hnw];rw[<-h2,hN];simp only[ae];rw[m4,m3,g5];simp only[ae,hrest,aB]
      first |rfl|skip
     ·rw[aR,m5] at k4;exact k4
theorem SK (hΘ:iq P Θ) (hY:ou P Y) {ops:Array Oper} {D:tD}: ∀ (os:List Oper) (S:TS) (κ:TS->Option ρ) (r:ρ),S.ok->Qc Θ Y os S κ=some r->
  ∃S',F8 D P ops os S.st=some (TS.st S')/\S'.ok/\κ S'=some r:=by
 intro os
 induction os with
 |nil=>intro S κ r hS h; exact⟨S,rfl,hS,h⟩
 |cons o os ih=>
  intro S κ r hS h;unfold Qc at h;cases hst:ez o with
  |false=>rw[hst] at h;obtain⟨S',h1,h2,h3⟩:=ih S κ r hS h;exact⟨S',by simp only[F8,hst,bg,if_false]; exact h1,h2,h3⟩
  |true=>
   rw[hst] at h;simp only[cond_true] at h;obtain⟨hc,h⟩:=eC h;simp only[aq] at hc;obtain⟨D',v,S1,g1,g2,g3,g4,h⟩:=E9 hΘ hY hS h;obtain⟨S',h1,h2,h3⟩:=ih S1 κ r g3 h;refine⟨S',?_,h2,h3⟩;have hd:o.dst=none:=db.1 hc.2
   have hs:iJ D P S.st o=some (v.av,S1.st):=by
    rw[<-g2];obtain⟨dst,op,ty,pos,aft,gd⟩:=o;cases op with
    |store t a x=>rfl
    | _=>cases hst
   have ho:one D P S.st o=some S1.st:=by unfold one;rw[hs];simp only[ae,hd,St.put]
   simp only[F8,hst,if_true,ho,ae,h1];rw[if_pos ⟨hc.1,by rw[hd]; rfl⟩]
theorem SM (hΘ:iq P Θ): ∀ (os:List Oper) (S:TS) (κ:TS->Option ρ) (r:ρ),S.ok->Qb Θ os S κ=some r-> ∃S0,HY P os S.st=some (TS.st S0)/\S0.ok/\κ S0=some r:=by
 intro os
 induction os with
 |nil=>intro S κ r hS h; exact⟨S,rfl,hS,h⟩
 |cons o os ih=>
  intro S κ r hS h;unfold Qb at h;unfold HY;split at h
  ·rename_i t hop;split at h
   ·rename_i ti hti
    obtain⟨S0,h1,h2,h3⟩:=ih { S with bx:=S.bx++ [ti.ty.zvs.map cC] } κ r ⟨hS.env,fun cs hcs c hc=>by
     rcases bc.1 hcs with h1|h1
     ·exact hS.bx cs h1 c hc
     ·simp only[az] at h1;subst h1;exact Qj _ _ c hc⟩ h
    refine⟨S0,?_,h2,h3⟩;rw[hop];simp only[(hΘ _ _ hti).ze,ae];rw[<-h1]
    congr 1
    rw[Ms,Qi];rfl
   ·cases h
  ·rename_i hno;obtain⟨S0,h1,h2,h3⟩:=ih S κ r hS h;exact⟨S0,by rw[<-h1]; split<;>first | (rename_i t ht; exact absurd ht (hno t))|rfl,h2,h3⟩
theorem Mx {f g:TypeId->Bool} (h: ∀t,f t=true->g t=true) {t:TypeId} {a:AV} (hs:Hj f t a=true):Hj g t a=true:=by cases a<;>simp only[Hj] at hs ⊢<;>first |exact h t hs|exact hs
theorem KL {f g:TypeId->Bool} (h: ∀t,f t=true->g t=true) {ops:List Oper} {B:List (List Nat)} {S SV:St} {i j:Nat} {oi oj:Oper} (hs:wk f ops B S SV i j oi oj=true):wk g ops B S SV i j oi oj=true:=by
 unfold wk at hs ⊢;split at hs
 ·simp only[aq] at hs ⊢;exact⟨Mx h hs.1,hs.2⟩
 ·cases hs
theorem KM {ops:List Oper} {B:List (List Nat)} {f g:Nat->Nat->Oper->Oper->Bool} (h: ∀i j oi oj,f i j oi oj=true->g i j oi oj=true) (hs:Ah ops B f=true):Ah ops B g=true:=by
 unfold Ah at hs ⊢;refine ax.2 fun j hj=> ?_;have h1:=ax.1 hs j hj;split at h1
 ·cases h1
 ·simp only[bC] at h1 ⊢;refine h1.imp id fun h1=>ax.2 fun i hi=> ?_;have h2:=ax.1 h1 i hi;split at h2
  ·cases h2
  ·simp only[bC] at h2 ⊢;exact h2.imp id (h _ _ _ _)
theorem OS {f g:TypeId->Bool} (h: ∀t,f t=true->g t=true) {ops:List Oper} {B:List (List Nat)} {S SV:St} {ms:List ki} (hs:LP f ops B S ms SV=true):LP g ops B S ms SV=true:=by unfold LP at hs ⊢;simp only[aq,bC] at hs ⊢;exact⟨⟨hs.1.1,hs.1.2.imp (KM fun _ _ _ _=>KL h) id⟩,hs.2⟩
theorem SN (hΘ:iq P Θ) (t:TypeId) (h:Qd Θ t=true):zz P t=true:=by
 unfold Qd at h;split at h
 ·rename_i ti hti;unfold zz;rw[(hΘ t ti hti).sh];unfold Ty.flatB at h;unfold Ty.shs;rw[List.all_map,ax];intro x hx;have:=ax.1 h x hx;cases x with
  |none=>rfl
  |some e=>cases this
 ·cases h
theorem SO (hΘ:iq P Θ) (hY:ou P Y) {n0:Nat} {ops:List Oper} {B:List (List Nat)}: ∀ (os:List Oper) (k:Nat) (S:TS) (κ:TS->Option ρ) (r:ρ),(∀o∈os,qK o=false)->S.ok->Qe Θ Y n0 ops B k os S κ=some r->
  ∃S':TS,R7 P n0 ops B k os S.st=some S'.st/\S'.ok/\κ S'=some r:=by
 intro os
 induction os with
 |nil=>intro k S κ r _ hS h; exact⟨S,rfl,hS,h⟩
 |cons o os ih=>
  intro k S κ r hf hS h;unfold Qe at h;have hf': ∀o∈os,qK o=false:=fun x hx=>hf x (aF _ hx);cases hn:fQ o||ez o with
  |true=>
   rw[hn] at h;simp only[cond_true] at h;obtain⟨D,v,S2,_,g2,g3,g4,h⟩:=E9 hΘ hY hS h;obtain⟨S3,g5,g6,_,h⟩:=nx g3 g4 h;obtain⟨S',k1,k2,k3⟩:=ih _ _ _ _ hf' g6 h;refine⟨S',?_,k2,k3⟩
   have hd:iJ Gi P S.st o=some (v.av,S2.st):=by rw[<-g2];exact PT (hf o aG) (by simpa using hn)
   simp only[R7,EE];rw[hn,if_pos rfl,hd];simp only[ae];rw[g5];exact k1
  |false=>rw[hn] at h;simp only[cond_false] at h;obtain⟨hp,h⟩:=eC h;obtain⟨v,S2,m1,m2,m3,m4,m5,h⟩:=Cd (D:=Gi) hΘ hS h;obtain⟨S3,g5,g6,_,h⟩:=nx m3 (by rw[m4]; exact m5) h;obtain⟨S',k1,k2,k3⟩:=ih _ _ _ _ hf' g6 h;refine⟨S',?_,k2,k3⟩;simp only[R7,EE];rw[hn,if_neg (by simp),if_pos hp,m1];simp only[aB,ae];rw[<-m2,g5];exact k1
theorem SP (hΘ:iq P Θ) (hY:ou P Y) (hm:P.follows .mixedOrders=true) {id:Nat} {ops:Array Oper} (hok:mA P (.region id ops true)=true) (hS:S.ok) {κ:TS->Option ρ} {r:ρ} (h:Ul Θ Y ops.toList S κ=some r):
  sq P (.region id ops true) S.st (fun x S'=>x= .nor/\ ∃S1:TS,S'=S1.st/\S1.ok/\κ S1=some r):=by
 unfold Ul at h;simp only[mA] at hok;cases hc:EF ops with
 |true=>rw[hc,if_pos rfl] at hok;rw[show EF ops.toList.toArray=true from hc] at h;simp only[cond_true] at h;obtain⟨S',h1,h2,h3⟩:=SO hΘ hY _ _ _ _ _ (L8 hc) hS h;exact sq.chain hm hok h1 ⟨rfl,S',rfl,h2,h3⟩
 |false=>
 rw[hc,if_neg (by simp)] at hok;rw[show EF ops.toList.toArray=false from hc] at h;simp only[cond_false] at h;obtain⟨S0,h0,hS0,h⟩:=SM hΘ _ _ _ _ hS h;obtain⟨D,SV,ms,h1,h2,h3,h4⟩:=SJ hΘ hY _ _ _ _ _ hS0 h;obtain⟨h5,h6⟩:=eC h4;rw[bo] at h5;obtain⟨S',h7,h8,h9⟩:=SK (D:=D) (ops:=ops) hΘ hY _ _ _ _ h3 h6;exact sq.draw h1 hm hok h0 h2 (OS (SN hΘ) h5) h7 ⟨rfl,S',rfl,h8,h9⟩
def gY:Code->List Code
 | .seq a b=>gY a++gY b
 | .cond _ a b=>gY a++gY b
 | .block _ c=>gY c
 | .loop c=> [c]
 | _=> []
def ld (P:Program) (Λ:uO) (cs:List Code):Prop:= ∀c∈cs,∀ (S:TS) (ρ:Type) (κ:X->TS->Option ρ) (r:ρ),S.ok->Λ (gE c) S ρ κ=some r->sq P (.loop c) S.st (fun x S'=> ∃S1:TS,S'=S1.st/\S1.ok/\κ x S1=some r)
theorem D5 (hΘ:iq P Θ) (hY:ou P Y) (hm:P.follows .mixedOrders=true) {Λ:uO}: ∀ (c:Code) (S:TS) (κ:X->TS->Option ρ) (r:ρ),mA P c=true->ld P Λ (gY c)->S.ok->Bd Θ Y Λ c S κ=some r->
  sq P c S.st (fun x S'=> ∃S1:TS,S'=S1.st/\S1.ok/\κ x S1=some r):=by
 intro c
 induction c with
 |skip=>intro S κ r _ _ hS h; exact sq.skip ⟨S,rfl,hS,h⟩
 |exit i=>intro S κ r _ _ hS h; exact sq.exit ⟨S,rfl,hS,h⟩
 |ret=>intro S κ r _ _ hS h; exact sq.ret ⟨S,rfl,hS,h⟩
 |region id ops dr=>
  intro S κ r hok _ hS h;cases dr with
  |false=>exact sq.region (SB hΘ hY _ _ _ _ (fun o ho=>ax.1 hok o ho) hS h)
  |true=>refine (SP hΘ hY hm hok hS h).mono (fun x S' hx=> ?_);obtain⟨rfl,hx⟩:=hx;exact⟨S',qN.refl,hx⟩
 |seq a b iha ihb=>
  intro S κ r hok hL hS h;simp only[mA,aq] at hok;have hLa:ld P Λ (gY a):=fun c hc=>hL c (b9 _ hc);have hLb:ld P Λ (gY b):=fun c hc=>hL c (cW _ hc);unfold Bd at h;refine sq.seq ((iha S _ r hok.1 hLa hS h).mono (fun x S' hx=>⟨S',qN.refl,?_⟩));obtain⟨S1,rfl,h1,h2⟩:=hx;cases x with
  |nor=>exact ihb S1 κ r hok.2 hLb h1 h2
  |ret=>exact⟨S1,rfl,h1,h2⟩
  |ext i=>exact⟨S1,rfl,h1,h2⟩
 |cond t a b iha ihb=>
  intro S κ r hok hL hS h;simp only[mA,aq] at hok;have hLa:ld P Λ (gY a):=fun c hc=>hL c (b9 _ hc);have hLb:ld P Λ (gY b):=fun c hc=>hL c (cW _ hc);unfold Bd at h;obtain⟨v,S1,h1,h2,h3,h4,h⟩:=EV hS h;refine sq.cond h1 ?_;rw[<-h2];cases v with
  |true=>exact iha S1 κ r hok.1 hLa h3 h
  |false=>exact ihb S1 κ r hok.2 hLb h3 h
 |block i c ih=>
  intro S κ r hok hL hS h;unfold Bd at h;refine sq.block ((ih S _ r hok hL hS h).mono (fun x S' hx=>⟨S',qN.refl,?_⟩));obtain⟨S1,rfl,h1,h2⟩:=hx;cases x with
  |nor=>exact⟨S1,rfl,h1,h2⟩
  |ret=>exact⟨S1,rfl,h1,h2⟩
  |ext j=>
   simp only at h2 ⊢;cases hb:Nat.beq j i with
   |true=>rw[hb] at h2;rw[if_pos (au hb)];exact⟨S1,rfl,h1,h2⟩
   |false=>rw[hb] at h2;rw[if_neg (by intro e; subst e; rw[cI] at hb; cases hb)];exact⟨S1,rfl,h1,h2⟩
 |loop c ih=>intro S κ r hok hL hS h;exact hL c (az.2 rfl) S ρ κ r hS h
 | _=>intro S κ r hok; cases hok
end
end
section
open Go
section
variable {ρ:Type} {P:Program} {Θ:qG} {S:TS} {Y:BQ}
theorem NN (hS:S.ok) {gs:List fr} {et:Option Ty} {c:Cl} (hc:c.ok S.gh) {κ:Cl->List fr->TS->Option ρ} {r:ρ} (h:Si S gs et c κ=some r):
  ∃c' gs' S',Dq S.st (gs.map fr.tree) (E5 et) c.av=some (Cl.av c',gs'.map fr.tree,TS.st S')/\S'.ok/\jV S.gh S'.gh/\jV (gs.map some) (gs'.map some)/\c'.ok (gs'.map some)/\κ c' gs' S'=some r:=by
 have new: ∀ (t:Ty) (l:List t.D) (n:Nat),n=l.length->(Cl.own ⟨gs.length,[]⟩ t.width 0 n true).ok ((gs++ [(⟨t,l,none⟩:fr)]).map some):=by intro t l n hn;refine⟨by simp,fun _=>⟨rfl,rfl,fun tr htr=> ?_⟩⟩;rw[cg] at htr;have e:=nJ (G:=gs.map some) (x:=some (⟨t,l,none⟩:fr)) gs.length;simp only[aD,if_true] at e;have htr':gx (gs.map some++ [some (⟨t,l,none⟩:fr)]) gs.length=some tr:=htr;rw[e] at htr';cases htr';exact hn
 have grow: ∀ (x:fr),jV (gs.map some) ((gs++ [x]).map some):=fun x=>by rw[cg]; exact jV.app _ _
 unfold Si at h;split at h
 ·refine⟨_,_,_,rfl,hS,jV.refl _,jV.refl _,?_,h⟩;trivial
 ·rename_i t;refine⟨_,_,S,?_,hS,jV.refl _,grow _,new t [] 0 rfl,h⟩;simp only[Cl.av,Dq,E5,aD,cg,aZ,ct];rfl
 ·rename_i p sz lo len w t';obtain⟨pr,pl⟩:=p;cases pl with
  |cons a l=>cases h
  |nil=>
   simp only at h;obtain⟨h1,h'⟩:=eC h;clear h;simp only[aq] at h1;have h2:S.fz<=pr:=aA h1.1;have h3:t'.width=sz:=au h1.2;obtain⟨t,l,k1,k2,h⟩:=jd h';obtain⟨k3,h⟩:=eC h;have k3:t.width=sz:=au k3
   have fin: ∀ (len:Nat),len<=l.length->Dq S.st (gs.map fr.tree) (E5 (some t')) (.own ⟨pr,[]⟩ sz 0 len)=some (.own ⟨gs.length,[]⟩ sz 0 len,(gs++ [(⟨t,l.take len,none⟩:fr)]).map fr.tree,({ S with gh:=gq S.gh pr none }:TS).st):=by
    intro len hlen;simp only[Dq];have hrows:S.st.rows ⟨pr,[]⟩ sz=some (l.map t.row):=by rw[<-k3]; exact nw k1
    rw[if_pos ⟨trivial,by show sz=t'.width; exact h3.symm,trivial,h2⟩,hrows];simp only[ae,aD];rw[if_pos hlen,Bg];simp only[E5,h3,cg,aZ,ct,fr.tree,bW,k3]
   cases w with
   |true=>obtain⟨e1,e2,e3⟩:=xJ hc k2;refine⟨_,_,_,?_,TS.ok_gh hS (jV.gone _ _),jV.gone _ _,grow _,by rw[<-k3]; exact new t l _ rfl,h⟩;have:=fin l.length (ay _);rw[be] at this;simp only[Cl.av];rw[e2,e3];exact this
   |false=>
    simp only[cond_false] at h;obtain⟨h4,h⟩:=fR h;refine⟨_,_,_,?_,TS.ok_gh hS (jV.gone _ _),jV.gone _ _,grow _,by rw[<-k3]; exact new t (l.take len) _ rfl,h⟩;have hl: (l.take len).length=len:=by simp; omega
    simp only[Cl.av];rw[h4.1,hl];exact fin len h4.2
 ·cases h
theorem QI: ∀ (ets:List (Option Ty)) (cs:List Cl) (S:TS) (gs:List fr) (κ:List Cl->List fr->TS->Option ρ) (r:ρ),S.ok->(∀c∈cs,c.ok S.gh)->NA S gs ets cs κ=some r->
  ∃cs' gs' S',wj S.st (gs.map fr.tree) (ets.map E5) (cs.map Cl.av)=some (cs'.map Cl.av,gs'.map fr.tree,TS.st S')/\S'.ok/\jV S.gh S'.gh/\jV (gs.map some) (gs'.map some)/\(∀c∈cs',c.ok (gs'.map some))/\κ cs' gs' S'=some r:=by
 intro ets
 induction ets with
 |nil=>
  intro cs S gs κ r hS hcs h;cases cs with
  |nil=>exact⟨[],gs,S,rfl,hS,jV.refl _,jV.refl _,(fun c hc=>by cases hc),h⟩
  |cons c cs=>cases h
 |cons et ets ih=>
  intro cs S gs κ r hS hcs h;cases cs with
  |nil=>cases h
  |cons c cs=>
   unfold NA at h;obtain⟨c',g1,S1,h1,h2,h3,h4,h5,h⟩:=NN hS (hcs c aG) h;obtain⟨cs',g2,S2,k1,k2,k3,k4,k5,h⟩:=ih cs S1 g1 _ r h2 (fun x hx=>Cl.ok_mono h3 (hcs x (aF _ hx))) h;refine⟨c'::cs',g2,S2,?_,k2,h3.trans k3,h4.trans k4,fun x hx=> ?_,h⟩
   ·simp only[aZ,wj,h1,ae,k1,aB]
   ·rcases aW.1 hx with rfl|hx
    ·exact Cl.ok_mono k4 h5
    ·exact k5 x hx
theorem SQ (hΘ:iq P Θ) (hS:S.ok) {gs:List fr} {t:TypeId} {v:V} (hv:v.ok S.gh) {κ:V1->List fr->TS->Option ρ} {r:ρ} (h:Um Θ S gs t v κ=some r):
  ∃v' gs' S',Of P S.st (gs.map fr.tree) t v.av=some (V1.av v',gs'.map fr.tree,TS.st S')/\S'.ok/\jV S.gh S'.gh/\jV (gs.map some) (gs'.map some)/\v'.ok (gs'.map some)/\κ v' gs' S'=some r:=by
 unfold Um at h;split at h
 ·cases h
 ·rename_i ti hti;have hsh:=(hΘ _ _ hti).sh;split at h
  ·rename_i cs;obtain⟨cs',g1,S1,h1,h2,h3,h4,h5,h⟩:=QI _ _ _ _ _ _ hS hv h;refine⟨.agg cs',g1,S1,?_,h2,h3,h4,h5,h⟩;simp only[V.av,V1.av,Of,hsh];rw[show ti.ty.shs=ti.ty.csh.map E5 from rfl,h1];rfl
  ·rename_i c;obtain⟨c',g1,S1,h1,h2,h3,h4,h5,h⟩:=NN hS hv h;refine⟨.cl c',g1,S1,?_,h2,h3,h4,h5,h⟩
   have e:Of P S.st (gs.map fr.tree) t (V.v (.cl c)).av=Dq S.st (gs.map fr.tree) ((pP P 9 t).headD 0) c.av:=by
    cases c with
    |c x=>cases x<;>rfl
    | _=>rfl
   rw[e,hsh]
   have e2:ti.ty.shs.headD 0=E5 (ti.ty.csh.headD none):=by
    unfold Ty.shs;cases ti.ty.csh with
    |nil=>rfl
    |cons a l=>cases a<;>rfl
   rw[e2];exact h1
  ·cases h
theorem KN (hΘ:iq P Θ): ∀ (rs:List (TypeId×V)) (S:TS) (gs:List fr) (κ:List V1->List fr->Option ρ) (r:ρ),S.ok->(∀x∈rs,x.2.ok S.gh)->xH Θ S gs rs κ=some r->
  ∃vs gs',JJ P S.st (gs.map fr.tree) (rs.map fun x=>(x.1,x.2.av))=some (vs.map V1.av,gs'.map fr.tree)/\jV (gs.map some) (gs'.map some)/\(∀v∈vs,v.ok (gs'.map some))/\vs.length=rs.length/\κ vs gs'=some r:=by
 intro rs
 induction rs with
 |nil=>intro S gs κ r hS hrs h; exact⟨[],gs,rfl,jV.refl _,(fun v hv=>by cases hv),rfl,h⟩
 |cons x rs ih=>
  intro S gs κ r hS hrs h;obtain⟨t,v⟩:=x;unfold xH at h;obtain⟨v',g1,S1,h1,h2,h3,h4,h5,h⟩:=SQ hΘ hS (hrs _ aG) h;obtain⟨vs,g2,k1,k2,k3,k4,h⟩:=ih S1 g1 _ r h2 (fun x hx=>V.ok_mono h3 (hrs x (aF _ hx))) h;refine⟨v'::vs,g2,?_,h4.trans k2,fun y hy=> ?_,by simp[k4],h⟩
  ·simp only[aZ,JJ,h1,ae,k1,aB]
  ·rcases aW.1 hy with rfl|hy
   ·exact V1.ok_mono k2 h5
   ·exact k3 y hy
theorem NP (hΘ:iq P Θ) (hS:S.ok): ∀ (rs:List ResultVar) (ts:List TypeId) (κ:List (TypeId×V)->Option ρ) (r:ρ),Gk Θ S rs ts κ=some r->
  ∃l:List (TypeId×V),rs.mapM (Bc P S.st)=some (l.map fun x=>x.2.av)/\l.map (·.1)=ts/\(∀x∈l,x.2.ok S.gh)/\κ l=some r:=by
 intro rs
 induction rs with
 |nil=>
  intro ts κ r h;cases ts with
  |nil=>exact⟨[],rfl,rfl,(fun x hx=>by cases hx),h⟩
  |cons t ts=>cases h
 |cons a rs ih=>
  intro ts κ r h;cases ts with
  |nil=>cases a<;>cases h
  |cons t ts=>
   cases a with
   |tmp a=>
    unfold Gk at h;obtain⟨l,h1,h2,h3,h⟩:=ih ts _ r h;refine⟨(t,kj S.env a)::l,?_,by simp[h2],fun x hx=> ?_,h⟩
    ·simp only[dw,h1,Bc];rfl
    ·rcases aW.1 hx with rfl|hx
     ·exact D3 hS a
     ·exact h3 x hx
   |cell a t'=>
    unfold Gk at h
    have hw:0<P.cellsOf t':=by
     have h':=h;unfold Ko at h';split at h'
     ·rename_i ti hti;rw[(hΘ _ _ hti).cells];exact Ty.width_pos _
     ·cases h'
    obtain⟨u,g1,g2,h⟩:=Kz hΘ hS (D3 hS a) h;obtain⟨l,h1,h2,h3,h⟩:=ih ts _ r h;refine⟨(t,u)::l,?_,by simp[h2],fun x hx=> ?_,h⟩
    ·simp only[dw,h1,Bc];rw[if_pos hw];have :load P S.st t' (S.st.env a)=some u.av:=g1;rw[this];rfl
    ·rcases aW.1 hx with rfl|hx
     ·exact g2
     ·exact h3 x hx
theorem IG {α β γ:Type} (f:α×β->γ): ∀l:List (α×β),(l.map (·.1)).zip (l.map f)=l.map fun x=>(x.1,f x)
 | [] =>rfl
 |a::l=>by simp only[aZ,List.zip_cons_cons,IG f l]
theorem NQ (vs:List V1): (Ca vs).av=EI (vs.map V1.av):=by
 match vs with
 | [] =>rfl
 | [v] =>rfl
 |v::u::vs=>rfl
theorem Az: ∀ (args:List V1) (n t:Nat),(kj (pS n args) (n+t)).av=(args.map V1.av).getD t .dead
 | [],n,t=>by simp[pS,kj]; rfl
 |a::l,n,0=>by simp[pS,kj]; rfl
 |a::l,n,t+1=>by
  have :Nat.beq n (n+(t+1))=false:=by
   cases h:Nat.beq n (n+(t+1)) with
   |false=>rfl
   |true=>have:=au h; omega
  simp only[pS,kj,this,cond_false];rw[show n+(t+1)=(n+1)+t by omega,Az l (n+1) t];simp
theorem AA: ∀ (args:List V1) (n:Nat) (x:Nat×V),x∈pS n args-> ∃a∈args,x.2= .v a
 | [],n,x,h=>by cases h
 |a::l,n,x,h=>by
  simp only[pS,aW] at h;rcases h with rfl|h
  ·exact⟨a,aG,rfl⟩
  ·obtain⟨b,hb,he⟩:=AA l (n+1) x h;exact⟨b,aF _ hb,he⟩
theorem Uq (hΘ:iq P Θ) (hY:ou P Y) (hm:P.follows .mixedOrders=true) {Λ:uO} {f:FuncId} {fn:Func} (hf:Kd P f=some fn) (hL: ∀c,fn.body=some c->ld P Λ (gY c)) {args:List V1} (ha: ∀a∈args,a.ok []) {res:V} {out:List fr}
  (h:Vg Θ Y Λ fn args (fun v g=>some (v,g))=some (res,out)):va P f (args.map V1.av) [] res.av (out.map fr.tree):=by
 unfold Vg at h;split at h
 ·cases h
 ·rename_i c hc
  have hcok:mA P c=true:=by
   unfold Kd at hf;simp only[aj] at hf;obtain⟨fn',g1,g2⟩:=hf;split at g2
   ·cases g2
   ·rename_i c' hc';split at g2
    ·cases g2
    ·rename_i hn;simp only[af] at g2;subst g2;rw[hc] at hc';simp only[af] at hc';subst hc';simp only[bC,not_or,dM,dF] at hn;exact hn.2
  have hS0: ({ env:=pS 0 args,bx:= [],gh:= [],fz:=0,nt:=args.length+(fn.ntmps-args.length) }:TS).ok:=
   ⟨fun x hx=>by obtain⟨a,h1,h2⟩:=AA _ _ _ hx; rw[h2]; exact ha a h1,fun cs hcs=>by cases hcs⟩
  have hbeg: ({ env:=pS 0 args,bx:= [],gh:= [],fz:=0,nt:=args.length+(fn.ntmps-args.length) }:TS).st=Gj fn.ntmps (args.map V1.av) [] :=by
   unfold TS.st Gj;simp only[aD,ck]
   congr 1
   funext t
   have:=Az args 0 t;rw[aU] at this;exact this
  have hW:=D5 hΘ hY hm c _ _ _ hcok (hL c hc) hS0 h;rw[hbeg] at hW
  have gE: ∀ (x:X) (S1:TS),S1.ok->(match x with | .ext _=>none| _=>Gk Θ S1 fn.results.toList fn.resultTypes.toList fun rs=>xH Θ S1 [] rs fun vs gs=>some (Ca vs,gs))=some (res,out)->
    (match x with | .ext _=>False| _=>Du P fn.results.toList fn.resultTypes.toList 0 S1.st=some (res.av,out.map fr.tree)):=by
   intro x S1 hS1 h
   have main: (Gk Θ S1 fn.results.toList fn.resultTypes.toList fun rs=>xH Θ S1 [] rs fun vs gs=>some (Ca vs,gs))=some (res,out)->Du P fn.results.toList fn.resultTypes.toList 0 S1.st=some (res.av,out.map fr.tree):=by
    intro h;obtain⟨l,h1,h2,h3,h⟩:=NP (P:=P) hΘ hS1 _ _ _ _ h;obtain⟨vs,gs',k1,k2,k3,k4,h⟩:=KN (P:=P) hΘ _ _ _ _ _ hS1 h3 h;simp only[af,an] at h;obtain⟨rfl,rfl⟩:=h;unfold Du;rw[h1];simp only[ae,aD]
    have hz: (fn.resultTypes.toList.zip (l.map fun x=>x.2.av))=l.map fun x=>(x.1,x.2.av):=by rw[<-h2];exact IG _ l
    rw[if_pos (by rw[<-h2]; simp),hz];have k1':JJ P S1.st [] (l.map fun x=>(x.1,x.2.av))=some (vs.map V1.av,gs'.map fr.tree):=k1;simp only[List.range_zero,ct,k1',aB,NQ]
   cases x with
   |ext i=>cases h
   |nor=>exact main h
   |ret=>exact main h
  refine Ke hf hc (hW.mono (fun x S' hx=>⟨S',qN.refl,?_⟩));obtain⟨S1,rfl,h1,h2⟩:=hx;have:=gE x S1 h1 h2;cases x<;>exact this
theorem KO (a:List V1) (t:Nat): (kj (pS 0 a) t).av=(a.map V1.av).getD t .dead:=by
 have:=Az a 0 t
 rwa [aU] at this
theorem NR (hΘ:iq P Θ) (hY:ou P Y) (hm:P.follows .mixedOrders=true) {Λ:uO} {f:FuncId} {fn:Func} (hf:Kd P f=some fn) (hL: ∀c,fn.body=some c->ld P Λ (gY c)) {m:Nat} (hm1:m<=1) {el:Ty} {l:List el.D} {args:List V1} (ha: ∀a∈args,a.ok []) {res:V} {out:List fr}
  (h:OH Θ Y Λ fn m el l args (fun v g=>some (v,g))=some (res,out)):oz P f (.own ⟨0,[]⟩ el.width 0 l.length::args.map V1.av) [.sl el.width (l.map el.row)] m res.av (out.map fr.tree):=by
 unfold OH at h;split at h
 ·cases h
 ·rename_i c hc
  have hcok:mA P c=true:=by
   unfold Kd at hf;simp only[aj] at hf;obtain⟨fn',g1,g2⟩:=hf;split at g2
   ·cases g2
   ·rename_i c' hc';split at g2
    ·cases g2
    ·rename_i hn;simp only[af] at g2;subst g2;rw[hc] at hc';simp only[af] at hc';subst hc';simp only[bC,not_or,dM,dF] at hn;exact hn.2
  have hS0: ({ env:=pS 0 (.cl (.own ⟨0,[]⟩ el.width 0 l.length true)::args),bx:= [],gh:= [some ⟨el,l,none⟩],fz:=m,nt:=(args.length+1)+(fn.ntmps-(args.length+1)) }:TS).ok:=
   ⟨fun x hx=>by
    obtain⟨a,h1,h2⟩:=AA _ _ _ hx;rw[h2];rcases aW.1 h1 with rfl|h1
    ·refine⟨du,fun _=>⟨rfl,rfl,fun tr htr=> ?_⟩⟩;have htr:some (⟨el,l,none⟩:fr)=some tr:=htr;cases htr;rfl
    ·exact V1.ok_mono (G:= []) ⟨aI _,fun r tr hr=>by cases hr⟩ (ha a h1),fun cs hcs=>by cases hcs⟩
  have hbeg: ({ env:=pS 0 (.cl (.own ⟨0,[]⟩ el.width 0 l.length true)::args),bx:= [],gh:= [some ⟨el,l,none⟩],fz:=m,nt:=(args.length+1)+(fn.ntmps-(args.length+1)) }:TS).st=OB fn.ntmps (.own ⟨0,[]⟩ el.width 0 l.length::args.map V1.av) [.sl el.width (l.map el.row)] m:=by
   unfold TS.st OB Gj;simp only[aD,bk,ck]
   congr 1
   ·funext t
    exact KO _ t
   ·funext r
    show (gx [some ⟨el,l,none⟩] r).map fr.tree= [T.sl el.width (l.map el.row)][r]?;unfold gx;rw[gR];cases r<;>rfl
  have hW:=D5 hΘ hY hm c _ _ _ hcok (hL c hc) hS0 h;rw[hbeg] at hW
  have fin: ∀ (S1:TS),S1.ok-> ∀gs:List fr,((List.range m).map fun r=>(S1.st.gh r).getD .dd)=gs.map fr.tree-> ∀l,(fn.results.toList.mapM (Bc P S1.st))=some (l.map fun x:TypeId×V=>x.2.av)->l.map (·.1)=fn.resultTypes.toList->(∀x∈l,x.2.ok S1.gh)->
    (xH Θ S1 gs l fun vs gs=>some (Ca vs,gs))=some (res,out)->Du P fn.results.toList fn.resultTypes.toList m S1.st=some (res.av,out.map fr.tree):=by
   intro S1 hS1 gs hgs l h1 h2 h3 h;obtain⟨vs,gs',k1,k2,k3,k4,h⟩:=KN (P:=P) hΘ _ _ _ _ _ hS1 h3 h;simp only[af,an] at h;obtain⟨rfl,rfl⟩:=h;unfold Du;rw[h1];simp only[ae,aD]
   have hz: (fn.resultTypes.toList.zip (l.map fun x=>x.2.av))=l.map fun x=>(x.1,x.2.av):=by rw[<-h2];exact IG _ l
   rw[if_pos (by rw[<-h2]; simp),hz,hgs,k1];simp only[aB,NQ]
  have main: ∀ (S1:TS),S1.ok->(Gk Θ S1 fn.results.toList fn.resultTypes.toList fun rs=>bif Nat.beq m 0 then xH Θ S1 [] rs fun vs gs=>some (Ca vs,gs) else match gx S1.gh 0 with
    |some ⟨t,l',none⟩=>xH Θ S1 [⟨t,l',none⟩] rs fun vs gs=>some (Ca vs,gs)
    | _=>none)=some (res,out)->Du P fn.results.toList fn.resultTypes.toList m S1.st=some (res.av,out.map fr.tree):=by
   intro S1 hS1 h0;obtain⟨l,h1,h2,h3,h⟩:=NP (P:=P) hΘ hS1 _ _ _ _ h0;clear h0;cases hm0:Nat.beq m 0 with
   |true=>rw[hm0] at h;have e:m=0:=au hm0;exact fin S1 hS1 [] (by rw[e]; rfl) l h1 h2 h3 h
   |false=>
    rw[hm0] at h;simp only[cond_false] at h
    have e:m=1:=by
     have :m≠0:=fun e=>by rw[e] at hm0; cases hm0
     omega
    split at h
    ·rename_i t l' hg
     exact fin S1 hS1 [⟨t,l',none⟩] (by
      rw[e];show [(S1.st.gh 0).getD .dd] =_
      have :S1.st.gh 0=some (fr.tree ⟨t,l',none⟩):=by show (gx S1.gh 0).map fr.tree=_;rw[hg];rfl
      rw[this];rfl) l h1 h2 h3 h
    ·cases h
  refine Ki hf hc (by simpa using hm1) (hW.mono (fun x S' hx=>⟨S',qN.refl,?_⟩));obtain⟨S1,rfl,h1,h2⟩:=hx;cases x with
  |ext i=>cases h2
  |nor=>exact main S1 h1 h2
  |ret=>exact main S1 h1 h2
end
end
end Go.Proofs.YtjnleglhcppgcaaGreat.En
