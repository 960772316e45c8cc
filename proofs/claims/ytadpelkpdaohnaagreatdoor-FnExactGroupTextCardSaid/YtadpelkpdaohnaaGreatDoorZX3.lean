import Derived.Test.YtadpelkpdaohnaaGreatDoorZX2
import Derived.Laws.BytesString
namespace Go.Proofs.YtadpelkpdaohnaaGreatDoor.En
section
open Go Go.RowKit
section
variable {P:Program} {w0 w w':World} {W:Nat->Prop} {bt:Bt} {S:St} {a:Act}
theorem xS (hI:eK w0 W bt S w) (hE:ER w bt S a) (hfz:S.fz<=S.ng) {t ty el:TypeId} (hel:o6 P t=some el) {bav xav v:AV} {bv xv:Value} (hb:VR w bt bav bv) (hx:VR w bt xav xv) {more:List (List T)} {S' S3:St} {fl:Bool}
  (hs:gA S (P.cellsOf el) fl xav=some (more,S')) (h:fW S' bav (P.cellsOf el) more=some (v,S3)) {p:eb} {s lo n:Nat} (hv:v= .own p s lo n) (hby:n*P.bytesOf el<=2 ^ 40) (hn:n<=2 ^ 40) (hpos:0<P.cellsOf el) (hz: (tJ P el).isSome=true):
  ∃u w' bt',(Builtin.append_ #[t,t] ty #[bv,xv]).run P w= .ok u w'/\fX w0 W bt S a bt' S3 w'/\VR w' bt' v u:=by
 obtain⟨zr,hz⟩:=bu.1 hz;obtain⟨zs,h1,h2,_,_⟩:=pO hz;obtain⟨i,zv,hi,hzv,rfl,hall⟩:=jM h1;have hsz:P.cellsOf el=i.size:=by simp[Program.cellsOf,hi]
 have hbz:P.bytesOf el=i.bytes:=by simp[Program.bytesOf,hi]
 obtain⟨src,news,hsrc⟩:=rp hI hpos hx hs;have hone: ∀u∈zv.cells.toList,u.oneCell'=true:=fun u hu=>au.1 hall u hu
 have look': ∀q s rs,S'.look q= .sl s rs->S.look q= .sl s rs:=by
  intro q s rs h;rw[hsrc.gone] at h;cases src with
  |none=>exact h
  |some q0=>
   simp only at h
   have hne:q.r≠q0.r:=by intro he;unfold St.look at h;simp[eh,he] at h
   rw[<-h];exact (pb hne).symm
 have ng':S'.ng=S.ng/\S'.fz=S.fz:=by rw[hsrc.gone];cases src<;>exact⟨rfl,rfl⟩
 have go: ∀ {rows:List (List T)} {ab:Option Addr} {cap:Nat} {bp:Option eb} {olds:List Value} {S1:St},KM w bt S' S1 (P.cellsOf el) rows bv ab cap bp olds->v= .own ⟨S.ng,[]⟩ (P.cellsOf el) 0 (rows.length+more.length)->
   S3= { S1 with gh:=eh S1.gh S.ng (some (.sl (P.cellsOf el) (rows++more))),ng:=S.ng+1 } -> ∃u w' bt',(Builtin.append_ #[t,t] ty #[bv,xv]).run P w= .ok u w'/\fX w0 W bt S a bt' S3 w'/\VR w' bt' v u:=by
  intro rows ab cap bp olds S1 hbas hve hSe
  have hnn:n=rows.length+more.length:=by rw[hv] at hve;simp only[AV.own.injEq] at hve;exact hve.2.2.2
  obtain⟨u,w',b,cap',hr,hap⟩:=uu (P:=P) (w:=w) (t:=t) (ty:=ty) (e:=el) (i:=i) (z:=zv) (ab:=ab) (len:=rows.length) (cap:=cap) (m:=more.length) (olds:=olds) (news:=news) (x:=xv) (gK hel) hi hzv (by rw[<-hsz,<-h2]; simp) hone (by omega) hbas.le (by rw[<-hsz]; exact hbas.len) (by rw[<-hsz]; exact hsrc.len) (by rw[<-hsz]; exact hbas.cur)
   (by
     rcases hsrc.val with ⟨h,h'⟩|h
     ·exact .inl ⟨by rw[h]; rfl,h'⟩
     ·exact .inr h) hsrc.one (by omega) (by rw[<-hbz,<-hnn]; exact hby)
  rw[<-hsz] at hap;obtain⟨bt',g1,_,g2⟩:=tc hI hE hfz hsrc hbas hap;rw[hSe,hve];refine⟨u,w',bt',?_,g1,g2⟩;rw[hbas.val];exact hr
 cases hb with
 |em ab=>
  simp only[fW,ae,al] at h;obtain⟨rfl,rfl⟩:=h;refine go (rows:= []) (ab:=ab) (cap:=0) (bp:=none) (olds:= []) (S1:=S') ⟨rfl,aw _,fun h=>absurd h (by omega),by simp,fun i r hi=>by simp at hi,fun h=>absurd h (by omega),rfl,fun p hp=>(nomatch hp),fun _=>rfl⟩ ?_ ?_
  ·rw[ng'.1]; simp
  ·rw[ng'.1]; rfl
 |own hp hcap hk ha=>
  rename_i q s' lo' len ad cap;simp only[fW] at h;split at h
  ·rename_i hc;obtain⟨rfl,rfl,hfz'⟩:=hc;simp only[aj] at h;obtain⟨rows,hrows,h⟩:=h;split at h
   ·cases h
   ·rename_i hlen;simp only[ae,al] at h;obtain⟨rfl,rfl⟩:=h;have hlook':=gC hrows;have hlook:=look' _ _ _ hlook';have htl: (rows.take len).length=len:=by simp; omega
    have hlr:rows.length<=bt.κ q:=(hI.tr _ _ _ hlook).1
    obtain⟨olds,hol,holds,hcur⟩: ∃olds:List Value,olds.length=len*P.cellsOf el/\(∀ (i:Nat) (r:List T),(rows.take len)[i]? =some r->r.length=P.cellsOf el/\ ∀ (j:Nat) (y:T),r[j]? =some y-> ∃c,olds[i*P.cellsOf el+j]? =some c/\GV bt (some q) i j y c)/\
      (0<cap-> ∃g cur e',ad=some ⟨g,0,none⟩/\w.heap[g]? =some (.cells cur e' (0,0))/\cap*P.cellsOf el<=cur.size/\(∀ (k:Nat) (u:Value),cur[k]? =some u->u.oneCell'=true)/\ ∀ (k:Nat) (u:Value),olds[k]? =some u->cur[k]? =some u):=by
     rcases bc cap with h0|h0
     ·have hl0:len=0:=by omega
      subst hl0;exact⟨[],by simp,fun i r hi=>by simp at hi,fun h=>absurd h (by omega)⟩
     ·obtain⟨olds,g1,g2,g3,g4⟩:=nV hI (lo:=0) (len:=len) hlook (by omega) (by omega);obtain⟨_,arr,e,k1,k2,k3,k4⟩:=(hI.tr _ _ _ hlook).2 (by omega);refine⟨olds,g1,fun i r hi=> ?_,fun _=>⟨bt.β q,arr,e,by rw[ha h0,cm],k1,bE (bG _ (by omega)) k2,k3,fun k u hk'=> ?_⟩⟩
      ·rw[bT] at g4;obtain⟨m1,m2⟩:=g4 i r hi;refine⟨m1,fun j y hy=> ?_⟩;obtain⟨c,m3,m4⟩:=m2 j y hy;rw[aV] at m4;exact⟨c,m3,m4⟩
      ·have:=g3 k u hk';rw[Go.Proofs.YtadpelkpdaohnaaGreatDoor.En.add_lit,jx k1,cm,aV] at this;exact this
    refine go (rows:=rows.take len) (ab:=ad) (cap:=cap) (bp:=some q) (olds:=olds) (S1:=if q.l= [] then { S' with gh:=eh S'.gh q.r none } else S'.setAt q .dd)
     ⟨by rw[htl],by rw[htl]; exact hcap,fun h0=>⟨q,rfl,by rw[ha h0,cm],by omega⟩,by rw[htl]; exact hol,holds,hcur,rfl,fun p hp=>by cases hp;exact⟨hfz',rows,hlook',by rw[htl]⟩,fun h=>by cases h⟩ ?_ ?_
    ·rw[ng'.1,htl]
    ·rw[ng'.1]
  ·cases h
 | _=>simp[fW] at h
def kQ (P:Program) (o:Oper):Bool:=match o.op with
 | .load t _=>decide (0<P.cellsOf t)
 | .store t _ _=>decide (0<P.cellsOf t)&&(P.info? t).isSome
 | .indexAddr t _ _=>match o6 P t with |some el=>(P.info? el).isSome|none=>true
 | .slice t _ _ _ _=>match o6 P t with |some el=>(P.info? el).isSome|none=>true
 | .select .. =>false
 | .call { callee:= .value _,args:=as,argTypes:=ts } =>ts.size==as.size
 | .call { callee:= .builtin .append,args:=_,argTypes:=ts } =>match ts.toList with | [t,t'] =>t==t'||(match P.underlying t' with |some (.int _)=>true| _=>false)| _=>true
 | _=>true
theorem zD {D:mu} {o:Oper} {v:AV} (hI:eK w0 W bt S w) (hE:ER w bt S a) (hok:kQ P o=true) (hp:kP o=true) (h:dH D P S o=some v):
  ∃u,(execOp a.eval o).run P w= .ok (.value u) w/\VR w bt v u:=by
 refine zy hI hE hp (fun t x he=> ?_) (fun t x y he el hel=> ?_) (fun t x lo hi he el hel=> ?_) h
 ·simpa [kQ,he] using hok
 ·simp only[kQ,he,hel] at hok;exact bu.1 hok
 ·simp only[kQ,he,hel] at hok;exact bu.1 hok
theorem fX.refl (hI:eK w0 W bt S w) (hE:ER w bt S a):fX w0 W bt S a bt S w:=⟨hI,hE,rfl,trivial,aw _,fun _ _=>⟨rfl,rfl⟩,fun _ _ h=>h⟩
theorem GW {v:AV} (h1:v≠ .dead) (h2: ∀vs,v≠ .tup vs):v.isDead=false:=by
 cases v with
 |dead=>exact absurd rfl h1
 |tup vs=>exact absurd rfl (h2 vs)
 | _=>rfl
theorem zE: ∀ {rs:List (List T)} {ns:List Int},o8 rs=some ns->rs=ns.map fun n=> [T.sc (.int .u8 n)] :=by
 intro rs
 induction rs with
 |nil=>intro ns h; simp only[o8,ae] at h; subst h; rfl
 |cons r rs ih=>
  intro ns h;unfold o8 at h;split at h
  ·rename_i heq; cases heq
  ·rename_i n rs' heq;simp only[bo] at heq;obtain⟨rfl,rfl⟩:=heq;simp only[ak] at h;obtain⟨ms,h1,rfl⟩:=h;rw[ih h1];rfl
  ·cases h
theorem zF (hI:eK w0 W bt S w) {p:eb} {lo len:Nat} {u:Value} (hv:VR w bt (.own p 1 lo len) u) {s d el:TypeId} (hs:P.underlying s=some (.slice el)) (he:P.underlying el=some (.int .u8)) (hd:P.underlying d=some .string) (hlen:0<len) {rows:List (List T)} (hr:S.rows p 1=some rows) (hle:lo+len<=rows.length) {ns:List Int} (hn:o8 ((rows.drop lo).take len)=some ns):
  (convert s d u).run P w= .ok (.string (DD ns)) w:=by
 cases hv with
 |own hp hc hk ha=>
  rename_i ad cap;have hrs:=zE hn
  have hnl:ns.length=len:=by have:=congrArg List.length hrs;simp only[cr,ch,aB] at this;omega
  obtain⟨news,g1,g2,g3,g4⟩:=nV hI (gC hr) (by omega) hle
  have hnews:news=ns.map (Value.int .u8):=by
   apply bK;intro i;rcases bU i ns.length with hi|hi
   ·have hri: ((rows.drop lo).take len)[i]? =some [T.sc (.int .u8 ns[i])] :=by rw[hrs,an,ah hi]; rfl
    obtain⟨_,q⟩:=g4 i _ hri;obtain⟨c,q1,q2⟩:=q 0 _ rfl;cases q2 with
    |sc h=>rw[Nat.mul_one,ca] at q1;rw[q1,an,ah hi];rfl
   ·rw[bA (by rw[g1]; omega),bA (by rw[aB]; exact hi)]
  have hl:=run_loadCells_list (P:=P) w (⟨bt.β p,lo*1,none⟩:Addr) news g3;rw[ha (by omega),run_convert_bytes_string w s d el _ len cap hs he hd];refine run_bytesToString w _ len cap ns ?_;rw[<-hnews];rw[g1,show len*1=len from Nat.mul_one len] at hl;exact hl
theorem GX {D:mu} {o:Oper} {v:AV} {S':St} (hI:eK w0 W bt S w) (hE:ER w bt S a) (hfz:S.fz<=S.ng) (hok:kQ P o=true) (hf:kO o=false) (h:fq D P S o=some (v,S')):
  ∃u w' bt',((execOp a.eval o).run P w= .ok (.value u) w'\/((execOp a.eval o).run P w= .ok .skip w'/\u=undef))/\fX w0 W bt S a bt' S' w'/\VR w' bt' v u:=by
 obtain⟨dst,op,type,pos,after,guard⟩:=o
 have val: ∀ {v S'},kP ⟨dst,op,type,pos,after,guard⟩=true->(dH D P S ⟨dst,op,type,pos,after,guard⟩).map (fun v=>(v,S))=some (v,S')->
   ∃u w' bt',((execOp a.eval ⟨dst,op,type,pos,after,guard⟩).run P w= .ok (.value u) w'\/((execOp a.eval ⟨dst,op,type,pos,after,guard⟩).run P w= .ok .skip w'/\u=undef))/\fX w0 W bt S a bt' S' w'/\VR w' bt' v u:=by
  intro v S' hp h;simp only[ak,al] at h;obtain⟨v',h1,rfl,rfl⟩:=h;obtain⟨u,g1,g2⟩:=zD hI hE hok hp h1;exact⟨u,w,bt, .inl g1,fX.refl hI hE,g2⟩
 have sc: ∀ {v S'},(∀cs b,op≠ .select cs b)->(dZ P S ⟨dst,op,type,pos,after,guard⟩).map (fun v=>(v,S))=some (v,S')->
   ∃u w' bt',((execOp a.eval ⟨dst,op,type,pos,after,guard⟩).run P w= .ok (.value u) w'\/((execOp a.eval ⟨dst,op,type,pos,after,guard⟩).run P w= .ok .skip w'/\u=undef))/\fX w0 W bt S a bt' S' w'/\VR w' bt' v u:=by
  intro v S' hs h;simp only[ak,al] at h;obtain⟨v',h1,rfl,rfl⟩:=h;obtain⟨u,g1,g2⟩:=mw hE (fun cs b=>hs cs b) h1;exact⟨u,w,bt, .inl g1,fX.refl hI hE,g2⟩
 cases op with
 |alloc t=>
  simp only[fq,ak,al] at h;obtain⟨zs,hz,rfl,rfl⟩:=h
  have hm:zs.map vZ=zs.map tZ:=by
   refine aG fun c hc=> ?_;obtain⟨i,z,_,_,rfl,hall⟩:=jM hz;have:=au.1 hall c hc;unfold vZ;split
   ·simp[Value.oneCell'] at this
   ·rfl
  obtain⟨u,w',bt',g1,g2,g3⟩:=zz hI hE hfz hz;rw[hm];exact⟨u,w',bt', .inl (by simp[execOp,g1]),g2,g3⟩
 |box t x=>
  simp only[fq] at h;have hv:=ek hE x;split at h
  ·cases h
  ·cases h
  ·rename_i h1 h2;simp only[ae,al] at h;obtain⟨rfl,rfl⟩:=h;obtain⟨u,w',bt',g1,g2,g3⟩:=DF (P:=P) (t:=t) hI hE hfz hv (GW h1 h2);exact⟨u,w',bt', .inl (by simp[execOp,g1]),g2,g3⟩
 |store t x y=>simp only[fq,ak,al] at h;obtain⟨S2,h1,rfl,rfl⟩:=h;simp only[kQ,ao,decide_eq_true_eq] at hok;obtain⟨i,hi⟩:=bu.1 hok.2;obtain⟨w',bt',g1,g2⟩:=zB hI hE hi hok.1 (ek hE x) (ek hE y) h1;exact⟨undef,w',bt', .inr ⟨by simp[execOp,g1],rfl⟩,g2, .dead _⟩
 |makeSlice t l c=>
  simp only[fq,aj] at h;obtain⟨el,hel,n,hn,m,hm,z,hz,h⟩:=h;split at h
  ·rename_i hc;obtain⟨h0,rfl,h2,h3⟩:=hc;simp only[ae,al] at h;obtain⟨rfl,rfl⟩:=h;obtain⟨kl,hl⟩:=pM hn (ek hE l);obtain⟨kc,hc⟩:=pM hm (ek hE c);obtain⟨u,w',bt',g1,g2,g3⟩:=tK (kl:=kl) (kc:=kc) hI hE hfz hel hz h0 h2 h3;exact⟨u,w',bt', .inl (by simp[execOp,hl,hc,g1]),g2,g3⟩
  ·cases h
 |buildSlice t len parts=>
  simp only[fq,aj] at h;obtain⟨el,hel,h⟩:=h;split at h
  ·rename_i hc;obtain⟨h1,h2,h3,h4,h5⟩:=hc;split at h
   ·simp only[ak,al] at h;obtain⟨rows,h6,rfl,rfl⟩:=h;obtain⟨u,w',bt',g1,g2,g3⟩:=wd hI hE hel h1 h2 h3 h4 h5 h6;exact⟨u,w',bt', .inl (by simp[execOp,g1]),g2,g3⟩
   simp only[ak,al] at h;obtain⟨S2,h6,rfl,rfl⟩:=h;obtain⟨u,w',bt',g1,g2,g3,_⟩:=sn hI hE hfz hel h1 h2 h3 h4 h5 h6;exact⟨u,w',bt', .inl (by simp[execOp,g1]),g2,g3⟩
  ·cases h
 |call c=>
  obtain⟨cl,as,ts⟩:=c;cases cl with
  |value f=>simp[kO] at hf
  |invoke r m=>exact sc (by simp) (by simpa [fq,dH] using h)
  |builtin b=>
   cases b with
   |append=>
    simp only[fq] at h;split at h
    ·rename_i s x t t' e1 e2;have e1:as= #[s,x] :=by apply Array.ext'; simpa using e1
     have e2:ts= #[t,t'] :=by apply Array.ext'; simpa using e2
     subst e1 e2;split at h
     ·rename_i htt;subst htt;simp only[aj] at h;obtain⟨el,hel,⟨more,S1⟩,h1,⟨v1,S3⟩,h2,h⟩:=h;simp only at h2 h;split at h
      ·rename_i p s' lo n;split at h
       ·rename_i hc;obtain⟨k1,k2,k3,k4⟩:=hc;simp only[ae,al] at h;obtain⟨rfl,rfl⟩:=h;obtain⟨u,w',bt',g1,g2,g3⟩:=xS (ty:=type) hI hE hfz hel (ek hE s) (ek hE x) h1 h2 rfl k1 k2 k3 k4;exact⟨u,w',bt', .inl (by simp[execOp,resolve,invoke,builtin,g1]),g2,g3⟩
       ·cases h
      ·cases h
     ·rename_i htt;simp only[aj] at h;obtain⟨el,hel,z,hz,h⟩:=h
      have hi: ∃kn,P.underlying t'=some (.int kn):=by
       simp only[kQ,bg,beq_iff_eq,htt,false_or] at hok;split at hok
       ·rename_i kn hk;exact⟨kn,hk⟩
       ·cases hok
      obtain⟨kn,hkn⟩:=hi;have hbs:=ek hE s;have hbx:=ek hE x;split at h
      ·rename_i k n e3 e4;split at h
       ·rename_i hc;obtain⟨k1,k2,k3,k4⟩:=hc;simp only[ae,al] at h;obtain⟨rfl,rfl⟩:=h;rw[e3] at hbs;rw[e4] at hbx;generalize hsu:a.eval s=su at hbs;generalize hxu:a.eval x=xu at hbx;cases hbs with
        |em ab=>
         cases hbx with
         |sc hsc=>obtain⟨u,w',bt',g1,g2,g3⟩:=wc (ty:=type) (kq:=k) (ab:=ab) hI hE hfz hel hkn hz k1 k2 k3 k4;exact⟨u,w',bt', .inl (by simp[execOp,resolve,invoke,builtin,hsu,hxu,g1]),g2,g3⟩
       ·cases h
      ·cases h
    ·cases h
   |len=>exact val rfl (by simpa [fq] using h)
   |cap=>exact val rfl (by simpa [fq] using h)
   |max=>exact val rfl (by simpa [fq] using h)
   |min=>exact val rfl (by simpa [fq] using h)
   | _=>exact sc (by simp) (by simpa [fq,dH] using h)
 |select cs b=>simp[kQ] at hok
 |convert s d x=>
  simp only[fq] at h;split at h
  ·rename_i p sz lo len hx;simp only[aj] at h;obtain⟨el,hel,h⟩:=h;split at h
   ·rename_i hc;obtain⟨h8,hd,rfl,hlen⟩:=hc;simp only[aj] at h;obtain⟨rows,hrows,h⟩:=h;split at h
    ·rename_i hle;simp only[ak,al] at h;obtain⟨ns,hns,rfl,rfl⟩:=h;have hv:=ek hE x;rw[hx] at hv
     have he:P.underlying el=some (.int .u8):=by
      unfold IL at h8;split at h8
      ·assumption
      ·cases h8
     have hd':P.underlying d=some .string:=by
      unfold tH at hd;split at hd
      ·assumption
      ·cases hd
     have hr:=zF hI hv (gK hel) he hd' hlen hrows hle hns;exact⟨_,w,bt, .inl (by simp[execOp,hr]),fX.refl hI hE, .sc rfl⟩
    ·cases h
   ·cases h
  ·exact val rfl h
 | _=>exact val rfl (by simpa [fq] using h)
end
end
section
open Go Go.RowKit
section
variable {P:Program} {w0 w w':World} {W:Nat->Prop} {bt:Bt} {S:St} {a:Act}
theorem xT (hI:eK w0 W bt S w) {A:Nat->Prop} (hA: ∀p s rs,S.look p= .sl s rs->0<bt.κ p->A (bt.β p)): ∀ (n:Nat) (p:eb) (t:T) (u:Value),SizeOf.sizeOf t<=n->HR bt p t u->u.oneCell'=true->(∀s rs,t= .sl s rs->S.look p= .sl s rs)->RO w A t u:=by
 intro n
 induction n with
 |zero=>intro p t u hn; cases t<;>simp at hn
 |succ n ih=>
  intro p t u hn h ho hl;cases h with
  |sc h=>exact .sc h
  |dd=>exact .dd ho
  |sl hc hk ha=>
   rename_i sz rows ad cap;rcases bc rows.length with h0|h0
   ·have :rows= [] :=be h0;subst this;exact .em _ _ _
   ·have hlook:=hl _ _ rfl;obtain⟨_,arr,e,g1,g2,g3,g4⟩:=(hI.tr _ _ _ hlook).2 (by omega);rw[ha (by omega)]
    have each: ∀ (i:Nat) (r:List T) (j:Nat) (x:T),rows[i]? =some r->r[j]? =some x-> ∃c,arr[i*sz+j]? =some c/\HR bt (p.sub i j) x c:=by intro i r j x hi hj;exact (g4 i r hi).2 j x hj
    refine .sl (fun i j=>(arr[i*sz+j]?).getD undef) hc rfl (hA _ _ _ hlook (by omega)) (fun i r hi=>(g4 i r hi).1) (fun i r j x hi hj=> ?_) (fun i r j x hi hj=> ?_)
    ·obtain⟨c,k1,_⟩:=each i r j x hi hj;rw[add_lit,jx g1,aV,k1];rfl
    ·obtain⟨c,k1,k2⟩:=each i r j x hi hj;rw[k1];refine ih (p.sub i j) x c ?_ k2 (g3 _ _ k1) (fun s rs hx=> ?_)
     ·have h1:SizeOf.sizeOf x<SizeOf.sizeOf r:=List.sizeOf_lt_of_mem (aq hj);have h2:SizeOf.sizeOf r<SizeOf.sizeOf rows:=List.sizeOf_lt_of_mem (aq hi);simp at hn;omega
     ·unfold St.look at hlook ⊢;split at hlook
      ·rename_i t ht;show (match S.gh p.r with |some t=>t.go (p.l++ [(i,j)])|none=> .dd)=_;rw[ht];simp only;rw[T.go_append,hlook];simp only[T.go,T.cell,ar,hi,aK,hj];exact hx
      ·cases hlook
theorem uv (hI:eK w0 W bt S w) {A:Nat->Prop} (hA: ∀p s rs,S.look p= .sl s rs->0<bt.κ p->A (bt.β p)) {p:eb} {s lo len:Nat} {rows:List (List T)} {u:Value} (h:VR w bt (.own p s lo len) u) (hr:S.rows p s=some rows) (hle:lo+len<=rows.length):
  RO w A (.sl s ((rows.drop lo).take len)) u:=by
 have hlook:=gC hr;cases h with
 |own hp hc hk ha=>
  rename_i ad cap;have hlen: ((rows.drop lo).take len).length=len:=by simp; omega
  rcases bc len with h0|h0
  ·subst h0;simp only[dg];exact .em _ _ _
  ·obtain⟨_,arr,e,g1,g2,g3,g4⟩:=(hI.tr _ _ _ hlook).2 (by omega);rw[ha (by omega)]
   have sub: ∀ (i:Nat) (r:List T),((rows.drop lo).take len)[i]? =some r->rows[lo+i]? =some r:=by
    intro i r hi;rw[aZ] at hi;split at hi
    ·rwa [aN] at hi
    ·cases hi
   have fG:RO w A (.sl s ((rows.drop lo).take len)) (.slice (some ⟨bt.β p,lo*s,none⟩) ((rows.drop lo).take len).length cap):=by
    refine .sl (fun i j=>(arr[(lo+i)*s+j]?).getD undef) (by omega) rfl (hA _ _ _ hlook (by omega)) (fun i r hi=>(g4 _ r (sub i r hi)).1) (fun i r j x hi hj=> ?_) (fun i r j x hi hj=> ?_)
    ·obtain⟨c,k1,_⟩:=(g4 _ r (sub i r hi)).2 j x hj;rw[add_lit,jx g1,show lo*s+(i*s+j)=(lo+i)*s+j by rw[bS]; omega,k1];rfl
    ·obtain⟨c,k1,k2⟩:=(g4 _ r (sub i r hi)).2 j x hj;rw[k1];refine xT hI hA _ (p.sub (lo+i) j) x c (aw _) k2 (g3 _ _ k1) (fun s' rs hx=> ?_);unfold St.look at hlook ⊢;split at hlook
     ·rename_i t ht;show (match S.gh p.r with |some t=>t.go (p.l++ [(lo+i,j)])|none=> .dd)=_;rw[ht];simp only;rw[T.go_append,hlook];simp only[T.go,T.cell,ar,sub i r hi,aK,hj];exact hx
     ·cases hlook
   rw[hlen] at fG;exact fG
def uw (bt:Bt) (w:World):Bt:= { bt with A:=fun b=>b<w.heap.size }
theorem xU (hI:eK w0 W bt S w):bt.le (uw bt w):=⟨aw _,aw _,fun b hb=>hI.alt b hb,fun _ _=>rfl,fun _ _=>rfl,fun _ _=>rfl⟩
theorem GY (hI:eK w0 W bt S w) {v:AV} {u:Value} (sz:Nat) (h:VR w bt v u) (ho:u.oneCell'=true):RO w (uw bt w).A (T.ofAV S sz v) u:=by
 cases v with
 |sc v=>cases h with |sc h=>exact .sc h
 |em=>cases h with |em a=>exact .em _ _ _
 |ro s rows=>cases h with |ro h=>exact h.mono (fun b hb=>hI.alt b hb) (fun _ _=>rfl)
 |own p s lo len=>
  simp only[T.ofAV];split
  ·split
   ·exact uv hI (fun _ _ _ h hk=>hI.βlt h hk) h ‹_› ‹_›
   ·exact .dd ho
  ·exact .dd ho
 | _=>exact .dd ho
theorem pP (hI:eK w0 W bt S w) {v:AV} {u:Value} (sz:Nat) (h:VR w bt v u):VR w (uw bt w) (eV S sz v) u:=by
 cases v with
 |sc v=>exact h.mono (xU hI) (fun _ _=>rfl)
 |em=>cases h with |em a=>exact .ro (.em _ _ _)
 |ro s rows=>exact h.mono (xU hI) (fun _ _=>rfl)
 |pro cells=>exact h.mono (xU hI) (fun _ _=>rfl)
 |own p s lo len=>
  simp only[eV];split
  ·split
   ·exact .ro (uv hI (fun _ _ _ h hk=>hI.βlt h hk) h ‹_› ‹_›)
   ·exact .dead _
  ·exact .dead _
 |ptrB b j=>
  simp only[eV];split
  ·rename_i cs hb;cases h with
   |ptrB j hn=>
    obtain⟨_,_,arr,e,g1,g2,g3⟩:=hI.bx _ _ hb;refine .pro (fun k=>(arr[j+k]?).getD undef) rfl (hI.bblt hb) (fun k x hk=> ?_) (fun k x hk=> ?_)
    ·rw[an] at hk;simp only[ak] at hk;obtain⟨v,hv,rfl⟩:=hk;rw[aN] at hv;obtain⟨c,k1,k2,k3⟩:=g3 _ _ hv;rw[add_lit,jx g1,k1];rfl
    ·rw[an] at hk;simp only[ak] at hk;obtain⟨v,hv,rfl⟩:=hk;rw[aN] at hv;obtain⟨c,k1,k2,k3⟩:=g3 _ _ hv;rw[k1];exact GY hI 0 k2 k3
  ·exact .dead _
 |ptrT p s i j=>
  simp only[eV];split
  ·rename_i rows hr;have hlook:=gC hr;cases h with
   |ptrT s i j hp hk=>
    obtain⟨_,arr,e,g1,g2,g3,g4⟩:=(hI.tr _ _ _ hlook).2 (by omega)
    have each: ∀ (k:Nat) (x:T),((rows.getD i []).drop j)[k]? =some x-> ∃r c,rows[i]? =some r/\r[j+k]? =some x/\arr[i*s+j+k]? =some c/\HR bt (p.sub i (j+k)) x c:=by
     intro k x hx;rw[aN] at hx;cases hr':rows[i]? with
     |none=>simp[hr'] at hx
     |some r=>simp only[ar,hr',aK] at hx;obtain⟨c,k1,k2⟩:=(g4 i r hr').2 _ _ hx;exact⟨r,c,rfl,hx,by rw[dl]; exact k1,k2⟩
    refine .pro (fun k=>(arr[i*s+j+k]?).getD undef) rfl (hI.βlt hlook (by omega)) (fun k x hx=> ?_) (fun k x hx=> ?_)
    ·obtain⟨r,c,k0,k1,k2,k3⟩:=each k x hx;rw[add_lit,jx g1,k2];rfl
    ·obtain⟨r,c,k0,k1,k2,k3⟩:=each k x hx;rw[k2];refine xT hI (fun _ _ _ h hk=>hI.βlt h hk) _ (p.sub i (j+k)) x c (aw _) k3 (g3 _ _ k2) (fun s' rs hxx=> ?_);unfold St.look at hlook ⊢;split at hlook
     ·rename_i t ht;show (match S.gh p.r with |some t=>t.go (p.l++ [(i,j+k)])|none=> .dd)=_;rw[ht];simp only;rw[T.go_append,hlook];simp only[T.go,T.cell,ar,k0,aK,k1];exact hxx
     ·cases hlook
  ·exact .dead _
 | _=>exact .dead _
theorem E5 (hI:eK w0 W bt S w) {v:AV} {u:Value} (szs:List Nat) (h:VR w bt v u):VR w (uw bt w) (ii S szs v) u:=by
 cases v with
 |agg cs=>
  simp only[ii];split
  ·rename_i hl;cases h with
   |agg hl' ho hr=>
    rename_i us;refine .agg (by simp[hl,hl']) ho (fun k c u h1 h2=> ?_);rw[bf] at h1;split at h1
    ·rename_i s c' e1 e2;simp only[ae] at h1;subst h1;exact pP hI s (hr k c' u e2 h2)
    ·cases h1
  ·exact .dead _
 |fn f caps=>
  cases h with
  |fn f hl hr=>rename_i us;refine .fn f (by simp[hl]) (fun k c u h1 h2=> ?_);rw[an] at h1;simp only[ak] at h1;obtain⟨c',e1,rfl⟩:=h1;exact pP hI 0 (hr k c' u e1 h2)
 |em=>cases h with |em a=>exact .em a
 | _=>exact pP hI (szs.headD 0) h
def lK (P:Program) (f:FuncId) (args:List AV) (gs:List T) (res:AV) (out:List T):Prop:=
 ∀ (w:World) (W:Nat->Prop) (bt0:Bt) (vals:List Value),eK w W bt0 (jY gs) w->vals.length=args.length->(∀ (k:Nat) (v:AV) (u:Value),args[k]? =some v->vals[k]? =some u->VR w bt0 v u)->
   (callFunc f vals.toArray).run P w= .ok (.enter f vals.toArray) w/\
   Calls P f vals.toArray w fun e w'=> ∃v btn,e= .returned v/\eK w W btn (jY out) w'/\gs.length<=out.length/\(∀p:eb,p.r<gs.length->btn.β p=bt0.β p/\btn.κ p=bt0.κ p)/\VR w' btn res v
def jN (P:Program) (D:mu):Prop:= ∀d f args gs res out,D d f args gs=some (res,out)->lK P f args gs res out
theorem jy (p:eb) (s:Nat) (rs:List (List T)): (jY []).look p≠ .sl s rs:=by simp[St.look,jY]
theorem CP (w:World) (bt:Bt) (hA: ∀b,bt.A b->b<w.heap.size):eK w (fun _=>False) { bt with nb:=0,ng:=0 } (jY []) w:=
 { os:=rfl,tape:=rfl,output:=rfl,size:=aw _,keep:=fun _ _ _=>rfl,nb:=rfl,ng:=rfl
   bx:=fun n cells h=>by cases h
   gh:=fun r t h=>by simp[jY] at h
   tr:=fun p s rs h=>absurd h (jy p s rs)
   inj:=fun p q s rs s' rs' h=>absurd h (jy p s rs)
   bbinj:=fun n m cs cs' h=>by cases h
   bbtr:=fun n cs p s rs h=>by cases h
   alt:=hA
   atr:=fun p s rs h=>absurd h (jy p s rs)
   abb:=fun n cs h=>by cases h }
def AV.ro0:AV->Bool
 | .sc _| .em| .ro _ _| .pro _| .dead=>true
 | _=>false
def AV.readOnly:AV->Bool
 | .agg cs=>cs.all AV.ro0
 | .fn _ cs=>cs.all AV.ro0
 |v=>v.ro0
theorem VR.readOnly0 {bt':Bt} (hA:bt'.A=bt.A) {v:AV} {u:Value} (h:VR w bt v u) (hr:v.ro0=true):VR w bt' v u:=by
 cases h with
 |sc h=>exact .sc h
 |em a=>exact .em a
 |ro h=>exact .ro (by rw[hA]; exact h)
 |pro cs hs hb hc ht=>exact .pro cs hs (by rw[hA]; exact hb) hc (fun j x hx=>by rw[hA]; exact ht j x hx)
 |dead u=>exact .dead u
 | _=>simp[AV.ro0] at hr
theorem VR.readOnly {bt':Bt} (hA:bt'.A=bt.A) {v:AV} {u:Value} (h:VR w bt v u) (hr:v.readOnly=true):VR w bt' v u:=by
 cases v with
 |agg cs=>
  cases h with
  |agg hl ho hc=>exact .agg hl ho (fun k c u h1 h2=>(hc k c u h1 h2).readOnly0 hA (au.1 hr c (aq h1)))
 |fn f cs=>
  cases h with
  |fn f hl hc=>exact .fn f hl (fun k c u h1 h2=>(hc k c u h1 h2).readOnly0 hA (au.1 hr c (aq h1)))
 | _=>exact h.readOnly0 hA hr
theorem nW (S:St) (sz:Nat) (v:AV): (eV S sz v).ro0=true:=by cases v<;>simp only[eV]<;>(try split)<;>(try split)<;>rfl
theorem rq {v:AV} (h:v.ro0=true):v.readOnly=true:=by cases v<;>first |exact h|simp[AV.ro0] at h
theorem zG (S:St) (szs:List Nat) (v:AV): (ii S szs v).readOnly=true:=by
 have one: ∀ {v:AV},v.ro0=true->v.readOnly=true:=by intro v h;cases v<;>first |exact h|simp[AV.ro0] at h
 cases v with
 |agg cs=>
  simp only[ii];split
  ·refine au.2 (fun c hc=> ?_);obtain⟨k,hk,rfl⟩:=aM hc;simp only[List.getElem_zipWith];exact nW _ _ _
  ·rfl
 |fn f caps=>simp only[ii];refine au.2 (fun c hc=> ?_);obtain⟨d,_,rfl⟩:=aL.1 hc;exact nW _ _ _
 |em=>rfl
 | _=>simp only[ii];exact one (nW S (szs.headD 0) _)
end
end
section
open Go Go.RowKit
section
variable {P:Program} {w0 w w':World} {W:Nat->Prop} {bt btn:Bt} {S:St} {a:Act}
theorem oz {out:List T} (hC:eK w (fun _=>False) btn (jY out) w'):Below w.heap.size w w':=
 ⟨hC.os,hC.tape,hC.output,hC.size,fun k hk=>hC.keep k hk (fun h=>h)⟩
theorem zH {k n:Nat} (hng:btn.ng=k) (hn:bt.ng=n) {v:AV} {u:Value} (h:VR w' btn v u):VR w' (bt.add btn k) (shift n v) u:=by
 have one: ∀ {v u},VR w' btn v u->VR w' (bt.add btn k) (kN n v) u:=by
  intro v u h;cases h with
  |sc h=>exact .sc h
  |own hp hc hk ha=>
   rename_i p sz lo len ad cap;have e1: (bt.add btn k).κ ⟨p.r+n,p.l⟩=btn.κ p:=by simp only[Bt.add,hn]; rw[if_pos (by omega),ck]
   have e2: (bt.add btn k).β ⟨p.r+n,p.l⟩=btn.β p:=by simp only[Bt.add,hn]; rw[if_pos (by omega),ck]
   exact .own (by show p.r+n<bt.ng+k; omega) hc (by rw[e1]; exact hk) (by rw[e2]; exact ha)
  | _=>exact .dead _
 have two: ∀ {v u},VR w' btn v u->VR w' (bt.add btn k) (jI n v) u:=by
  intro v u h;cases v with
  |agg cs=>
   cases h with
   |agg hl ho hr=>refine .agg (by simpa using hl) ho (fun j c u h1 h2=> ?_);rw[an] at h1;simp only[ak] at h1;obtain⟨c',e1,rfl⟩:=h1;exact one (hr j c' u e1 h2)
  | _=>exact one h
 cases v with
 |tup vs=>
  cases h with
  |tup hl hr=>refine .tup (by simpa using hl) (fun j c u h1 h2=> ?_);rw[an] at h1;simp only[ak] at h1;obtain⟨c',e1,rfl⟩:=h1;exact two (hr j c' u e1 h2)
 | _=>exact two h
theorem qm (hI:eK w0 W bt S w) (hE:ER w bt S a) (hfz:S.fz<=S.ng) {res:AV} {out:List T} {u:Value} (hC:eK w (fun _=>False) btn (jY out) w') (hv:VR w' btn res u):
  ∃bt',fX w0 W bt S a bt' (kv S (res,out)).2 w'/\bt.le bt'/\VR w' bt' (kv S (res,out)).1 u:=by
 have hb:=oz hC;have hg:mA w0 W bt S w w':=mA.of_below hb
 have hi:=(hI.change hg).addRoots btn out (fun p s rs h=>by
   obtain⟨h1,h2⟩:=hC.tr p s rs h;refine⟨h1,fun hk=>⟨?_,(h2 hk).2⟩⟩;rcases (h2 hk).1 with h|h
   ·exact .inl (bE hI.size h)
   ·exact h.elim) hC.inj (fun p s rs h hk=>by
   have hge:w.heap.size<=btn.β p:=by
    rcases ((hC.tr p s rs h).2 hk).1 with h|h
    ·exact h
    ·exact h.elim
   exact hI.fresh hge)
 have hle:=Bt.le_add bt btn out.length;refine⟨_,⟨hi,⟨hE.1,fun t=>(hE.2 t).mono hle (hg.A hI)⟩,rfl,trivial,dn _ _,fun p hp=>⟨hle.β p (by rw[hI.ng]; omega),hle.κ p (by rw[hI.ng]; omega)⟩,fun r hr hn=> ?_⟩,hle,zH hC.ng hI.ng hv⟩;have : (if S.ng<=r/\r<S.ng+out.length then out[r-S.ng]? else S.gh r)=none:=hn
 rwa [if_neg (by omega)] at this
theorem GZ (hI:eK w0 W bt S w) (hE:ER w bt S a) {ts:Array TypeId} {as:Array Operand} {caps:List AV} {us:List Value} (hts:ts.size=as.size) (hl:us.length=caps.length)
  (hc: ∀ (k:Nat) (c:AV) (u:Value),caps[k]? =some c->us[k]? =some u->VR w bt c u):
  (as.toList.map a.eval++us).length=(args P S ts as caps).length/\ ∀ (k:Nat) (v:AV) (u:Value),(args P S ts as caps)[k]? =some v->(as.toList.map a.eval++us)[k]? =some u->VR w { uw bt w with nb:=0,ng:=0 } v u:=by
 have l1: (List.zipWith (fun t x=>ii S (ku P 9 t) (opd S x)) ts.toList as.toList).length=as.size:=by simp[hts]
 refine⟨by simp[args,hts,hl],fun k v u h1 h2=> ?_⟩;unfold args at h1;by_cases hk:k<as.size
 ·rw[aJ (by omega)] at h1;rw[aJ (by simpa using hk),an] at h2;rw[bf] at h1;split at h1
  ·rename_i t x e1 e2;simp only[ae] at h1;rw[e2] at h2;simp only[az,ae] at h2;subst h1 h2;exact VR.readOnly (bt:=uw bt w) (bt':= { uw bt w with nb:=0,ng:=0 }) rfl (E5 hI _ (ek hE x)) (zG _ _ _)
  ·cases h1
 ·rw[aO (by omega),l1,an] at h1;rw[aO (by simp; omega)] at h2;simp only[aB,b7] at h2;simp only[ak] at h1;obtain⟨c,e1,rfl⟩:=h1;exact VR.readOnly (bt:=uw bt w) (bt':= { uw bt w with nb:=0,ng:=0 }) rfl (pP hI 0 (hc _ c u e1 h2)) (rq (nW _ _ _))
theorem ux {D:mu} (hD:jN P D) (hI:eK w0 W bt S w) (hE:ER w bt S a) {o:Oper} {f:Operand} {as:Array Operand} {ts:Array TypeId} (ho:o.op= .call { callee:= .value f,args:=as,argTypes:=ts }) (hts:ts.size=as.size)
  {g:FuncId} {caps:List AV} (hc:callee S f=some (g,caps)) {res:AV} {out:List T} {d:Option Tmp} (hr:D d g (args P S ts as caps) [] =some (res,out)) {K:Act->World->Prop} {Q:Exit->Act->World->Prop}
  (h: ∀u w' btn,eK w (fun _=>False) btn (jY out) w'->VR w' btn res u->K (a.put o.dst u) w'):o.wp P a w K Q:=by
 have hf:=ek hE f
 have fin: ∀us:List Value,a.eval f= .func (.func g) #[] us.toArray->us.length=caps.length->(∀ (k:Nat) (c:AV) (u:Value),caps[k]? =some c->us[k]? =some u->VR w bt c u)->o.wp P a w K Q:=by
  intro us he hl hcc;obtain⟨h1,h2⟩:=GZ (P:=P) (ts:=ts) (as:=as) hI hE hts hl hcc;have hI0:eK w (fun _=>False) { uw bt w with nb:=0,ng:=0 } (jY []) w:=CP w (uw bt w) (fun _ h=>h);obtain⟨g1,g2⟩:=hD d g _ [] res out hr w (fun _=>False) _ (as.toList.map a.eval++us) hI0 h1 h2
  have hrun: (execOp a.eval o).run P w= .ok (.enter g (as.toList.map a.eval++us).toArray) w:=by
   have e:as.map a.eval++us.toArray=(as.toList.map a.eval++us).toArray:=by apply Array.ext'; simp
   obtain⟨dst,op,type,pos,after,guard⟩:=o;simp only at ho;subst ho;simp only[execOp,resolve,he,Deferred.ofValue,Sem.run_bind,Sem.run_pure,Result.andThen_ok,invoke,cL];rw[e];exact g1
  unfold Oper.wp;rw[hrun,Oper.upon_enter];refine Calls.mono g2 (fun e w' hh=> ?_);obtain⟨v,btn,rfl,k1,_,_,k2⟩:=hh;exact h v w' btn k1 k2
 unfold callee at hc;split at hc
 ·rename_i g' x y he;simp only[ae,al] at hc;obtain⟨rfl,rfl⟩:=hc;rw[he] at hf;generalize hu:a.eval f=u at hf fin;cases hf with
  |sc hs=>simp only[kt,ao,Array.isEmpty_iff] at hs;obtain⟨rfl,rfl⟩:=hs;exact fin [] rfl rfl (fun k c u h1 _=>by simp at h1)
 ·rename_i g' cs he;simp only[ae,al] at hc;obtain⟨rfl,rfl⟩:=hc;rw[he] at hf;generalize hu:a.eval f=u at hf fin;cases hf with
  |fn f hl hcc=>exact fin _ rfl hl hcc
 ·cases hc
theorem DI (hI:eK w0 W bt S w) (hE:ER w bt S a) {res:AV} {out:List T} {u:Value} (hC:eK w (fun _=>False) btn (jY out) w') (hv:VR w' btn res u):
  ∃bt',eK w0 W bt' S w'/\ER w' bt' S a/\bt.le bt'/\bt'.β=bt.β/\bt'.κ=bt.κ/\VR w' bt' (KK (res,out)) u:=by
 have hb:=oz hC;have hg:mA w0 W bt S w w':=mA.of_below hb
 obtain⟨h1,hle⟩:=(hI.change hg).more (A:=fun b=>bt.A b\/(w.heap.size<=b/\b<w'.heap.size)) (fun b h=> .inl h) (fun b h=>by
  rcases h with h|h
  ·exact aW (hI.alt b h) hb.size
  ·exact h.2) (fun b h=>by
  rcases h with h|h
  ·exact .inl h
  ·have:=hI.fresh h.1;exact .inr ⟨this.1,this.2.1⟩)
 refine⟨_,h1,⟨hE.1,fun t=>(hE.2 t).mono hle (hg.A hI)⟩,hle,rfl,rfl,?_⟩
 have hA: ∀p s rs,(jY out).look p= .sl s rs->0<btn.κ p->(bt.A (btn.β p)\/(w.heap.size<=btn.β p/\btn.β p<w'.heap.size)):=by
  intro p s rs h hk;rcases ((hC.tr p s rs h).2 hk).1 with h'|h'
  ·exact .inr ⟨h',hC.βlt h hk⟩
  ·exact h'.elim
 have one: ∀ {v u},VR w' btn v u->VR w' { bt with A:=fun b=>bt.A b\/(w.heap.size<=b/\b<w'.heap.size) } (GP out v) u:=by
  intro v u h;cases v with
  |sc v=>cases h with |sc h=>exact .sc h
  |own p sz lo len=>
   simp only[GP];split
   ·rename_i s rows hl ht;split
    ·rename_i hc;obtain⟨rfl,hle'⟩:=hc;refine .ro (uv hC hA h ?_ hle');obtain⟨r,l⟩:=p;simp only at hl ht;subst hl;simp[St.rows,St.look,jY,ht,T.go]
    ·exact .dead _
   ·exact .dead _
  | _=>exact .dead _
 have two: ∀ {v u},VR w' btn v u->VR w' { bt with A:=fun b=>bt.A b\/(w.heap.size<=b/\b<w'.heap.size) } (IK out v) u:=by
  intro v u h;cases v with
  |agg cs=>
   cases h with
   |agg hl ho hr=>refine .agg (by simpa using hl) ho (fun j c u h1 h2=> ?_);rw[an] at h1;simp only[ak] at h1;obtain⟨c',e1,rfl⟩:=h1;exact one (hr j c' u e1 h2)
  | _=>exact one h
 unfold KK;cases res with
 |tup vs=>
  cases hv with
  |tup hl hr=>refine .tup (by simpa using hl) (fun j c u h1 h2=> ?_);rw[an] at h1;simp only[ak] at h1;obtain⟨c',e1,rfl⟩:=h1;exact two (hr j c' u e1 h2)
 | _=>exact two hv
end
end
section
open Go Go.RowKit
section
variable {P:Program} {w0 w w':World} {W:Nat->Prop} {btI bt bt':Bt} {SI S S':St} {a a':Act} {D:mu} {Q:Exit->Act->World->Prop}
structure Lv (w0:World) (W:Nat->Prop) (btI:Bt) (SI:St) (bt:Bt) (S:St) (a:Act) (w:World):Prop where
 inv:eK w0 W bt S w
 er:ER w bt S a
 defers:a.defers= []
 fz:S.fz=SI.fz
 fzng:S.fz<=S.ng
 keep: ∀p:eb,p.r<SI.fz->bt.β p=btI.β p/\bt.κ p=btI.κ p
 gone: ∀r,r<SI.fz->S.gh r=none->SI.gh r=none
theorem Lv.left (h:Lv w0 W btI SI bt S a w) (g:fX w0 W bt S a bt' S' w'):Lv w0 W btI SI bt' S' a w':=
 ⟨g.inv,g.er,h.defers,g.fz.trans h.fz,by rw[g.fz]; exact bE h.fzng g.ng,fun p hp=>⟨((g.keep p (by rw[h.fz]; exact hp)).1).trans (h.keep p hp).1,((g.keep p (by rw[h.fz]; exact hp)).2).trans (h.keep p hp).2⟩,
  fun r hr hn=>h.gone r hr (g.gone r (by rw[h.fz]; exact hr) hn)⟩
theorem E6 {d:Option Tmp} {v:AV} (h:S.put d v=some S'):S'.bx=S.bx/\S'.gh=S.gh/\S'.nb=S.nb/\S'.ng=S.ng/\S'.fz=S.fz/\S'.nt=S.nt/\S'= { S with env:=S'.env } :=by
 unfold St.put at h;split at h
 ·split at h
  ·simp only[ae] at h;subst h;exact⟨rfl,rfl,rfl,rfl,rfl,rfl,rfl⟩
  ·cases h
 ·simp only[ae] at h;subst h;exact⟨rfl,rfl,rfl,rfl,rfl,rfl,rfl⟩
theorem eK.env (h:eK w0 W bt S w) (env:Nat->AV):eK w0 W bt { S with env:=env } w:=
 { os:=h.os,tape:=h.tape,output:=h.output,size:=h.size,keep:=h.keep,nb:=h.nb,ng:=h.ng,bx:=h.bx,gh:=h.gh,tr:=h.tr,inj:=h.inj,bbinj:=h.bbinj,bbtr:=h.bbtr,alt:=h.alt,atr:=h.atr,abb:=h.abb }
theorem Lv.put (h:Lv w0 W btI SI bt S a w) {d:Option Tmp} {v:AV} {u:Value} (hv:VR w bt v u) (hp:S.put d v=some S'):Lv w0 W btI SI bt S' (a.put d u) w:=by obtain⟨_,e2,_,e4,e5,_,e7⟩:=E6 hp;refine⟨by rw[e7]; exact h.inv.env _,h.er.put hv hp,?_,e5.trans h.fz,by rw[e5,e4]; exact h.fzng,h.keep,fun r hr hn=>h.gone r hr (by rw[<-e2]; exact hn)⟩;cases d<;>exact h.defers
theorem uy:VR w bt (.tup []) undef:= .tup (us:= []) rfl (fun _ _ _ h=>by cases h)
theorem jf {ops:Array Oper} {o:Oper} {b:Bool} (hE:ER w bt S a) (h:jL S ops o=some b):Region.wanted o (yielded ops a.tmps)=b:=by
 unfold jL at h;unfold Region.wanted;split at h
 ·rename_i hg;simp only[ae] at h;simp[hg,h]
 ·rename_i j want hg;split at h
  ·rename_i d hd;split at h
   ·rename_i b' he;simp only[ae] at h;have hv:=hE.2 d;rw[he] at hv;have hu:=hv.inv_sc
    have hy:yielded ops a.tmps j=some b':=by
     unfold yielded;rw[hd];simp only[af];cases hx:a.tmps[d]? with
     |none=>simp only[aQ,hx,cW] at hu;cases hu
     |some x=>simp only[aQ,hx,aK] at hu;subst hu;rfl
    simp only[hg,hy,<-h];cases b'<;>cases want<;>rfl
   ·rename_i he;simp only[ae] at h;have hv:=hE.2 d;rw[he] at hv
    have hu:a.tmps.getD d undef=undef:=by
     generalize a.tmps.getD d undef=u at hv;cases hv with
     |tup hl h=>rw[cJ.1 hl]; rfl
    have hy:yielded ops a.tmps j=none:=by
     unfold yielded;rw[hd];simp only[af];cases hx:a.tmps[d]? with
     |none=>rfl
     |some x=>simp only[aQ,hx,aK] at hu;subst hu;rfl
    simp only[hg,hy,<-h];cases want<;>rfl
   ·cases h
  ·cases h
theorem nX (hD:jN P D) (h:Lv w0 W btI SI bt S a w) {o:Oper} (hok:kQ P o=true) (hs:one D P S o=some S') {K:Act->World->Prop} (hK: ∀bt' a' w',Lv w0 W btI SI bt' S' a' w'->K a' w'):o.wp P a w K Q:=by
 unfold one at hs;simp only[aj] at hs;obtain⟨⟨v,S1⟩,h1,h2⟩:=hs;simp only at h2;by_cases hf:kO o=true
 ·obtain⟨dst,op,type,pos,after,guard⟩:=o;unfold kO at hf;split at hf
  ·rename_i f as ts hop;simp only at hop;subst hop;simp only[fq,aj,ak] at h1;obtain⟨⟨g,caps⟩,hc,⟨res,out⟩,hr,hi⟩:=h1;simp only[kQ,beq_iff_eq] at hok;refine ux hD h.inv h.er rfl hok hc hr (fun u w' btn hC hv=> ?_);obtain⟨bt',g1,_,g2⟩:=qm h.inv h.er h.fzng hC hv;rw[hi] at g1 g2;exact hK _ _ _ ((h.left g1).put g2 h2)
  ·cases hf
 ·obtain⟨u,w',bt',g0,g1,g2⟩:=GX h.inv h.er h.fzng hok (by simpa using hf) h1;have:=hK _ _ _ ((h.left g1).put g2 h2);unfold Oper.wp;rcases g0 with g0| ⟨g0,rfl⟩
  ·rw[g0,Oper.upon_value]; exact this
  ·rw[g0,Oper.upon_skip]; exact this
end
end
section
open Go Go.RowKit
section
variable {P:Program} {S:St} {D:mu}
theorem uz {o:Oper} {env:Nat->AV} (hs: ∀cs b,o.op≠ .select cs b) (h: ∀x∈o.op.operands,opd { S with env:=env } x=opd S x):dZ P { S with env:=env } o=dZ P S o:=by
 have e1:o.op.operands.all (fun x=>(nj (opd { S with env:=env } x)).isSome)=o.op.operands.all (fun x=>(nj (opd S x)).isSome):=by
  rw[bZ,b9,b9];constructor
  ·intro g x hx;rw[<-h x hx];exact g x hx
  ·intro g x hx;rw[h x hx];exact g x hx
 have e2:execOp (fun x=>(nj (opd { S with env:=env } x)).getD undef) o=execOp (fun x=>(nj (opd S x)).getD undef) o:=execOp_congr o hs (fun x hx=>by rw[h x hx]);unfold dZ;rw[e1,e2]
theorem DJ (env:Nat->AV) (szs:List Nat) (v:AV):ii { S with env:=env } szs v=ii S szs v:=by cases v<;>rfl
theorem E7 (env:Nat->AV) (t:TypeId) (v:AV):load P { S with env:=env } t v=load P S t v:=by cases v<;>rfl
theorem uA {env:Nat->AV} {ts:Array TypeId} {as:Array Operand} (caps:List AV) (h: ∀x∈as,opd { S with env:=env } x=opd S x):args P { S with env:=env } ts as caps=args P S ts as caps:=by
 unfold args
 congr 1
 ·apply bK;intro k;rw[bf,bf];cases ht:ts.toList[k]? with
  |none=>rfl
  |some t=>
   cases ha:as.toList[k]? with
   |none=>rfl
   |some x=>simp only;rw[DJ,h x (by simpa using aq ha)]
theorem rr {env:Nat->AV} {f:Operand} (h:opd { S with env:=env } f=opd S f):callee { S with env:=env } f=callee S f:=by unfold callee;rw[h]
theorem zI {o:Oper} {env:Nat->AV} (hok:kQ P o=true) (h: ∀x∈o.op.operands,opd { S with env:=env } x=opd S x):dH D P { S with env:=env } o=dH D P S o:=by
 have hs: ∀cs b,o.op≠ .select cs b:=by intro cs b he;simp[kQ,he] at hok
 have sc:=uz (P:=P) hs h;obtain⟨dst,op,type,pos,after,guard⟩:=o;cases op with
 |move x=>simp only[dH]; rw[h x (by simp[Op.operands])]
 |assign x=>simp only[dH]; rw[h x (by simp[Op.operands])]
 |pick c x y=>simp only[dH]; rw[h c (by simp[Op.operands]),h x (by simp[Op.operands]),h y (by simp[Op.operands])]
 |load t x=>simp only[dH]; rw[h x (by simp[Op.operands]),E7]
 |nilCheck x=>simp only[dH]; rw[h x (by simp[Op.operands])]
 |fieldAddr t x k=>simp only[dH]; rw[h x (by simp[Op.operands])]
 |field t x k=>simp only[dH]; rw[h x (by simp[Op.operands])]
 |indexAddr t x i=>simp only[dH]; rw[h x (by simp[Op.operands]),h i (by simp[Op.operands])]
 |build t parts=>
  simp only[dH]
  have :parts.toList.map (fun x=>(x.1,opd { S with env:=env } x.2))=parts.toList.map (fun x=>(x.1,opd S x.2)):=aG fun x hx=>by rw[h x.2 (by simp only[Op.operands,cX]; exact aL.2 ⟨x,hx,rfl⟩)]
  rw[this]
 |slice t x lo hi mx=>
  cases mx with
  |some m=>simp only[dH]; exact sc
  |none=>
   have hb: ∀d (y:Option Operand),(∀z,y=some z->opd { S with env:=env } z=opd S z)->i6 { S with env:=env } d y=i6 S d y:=by
    intro d y hy;cases y with
    |none=>rfl
    |some z=>simp only[i6]; rw[hy z rfl]
   have h1: ∀d,i6 { S with env:=env } d lo=i6 S d lo:=fun d=>hb d lo (fun z hz=>h z (by simp[Op.operands,hz]));have h2: ∀d,i6 { S with env:=env } d hi=i6 S d hi:=fun d=>hb d hi (fun z hz=>h z (by simp[Op.operands,hz]));simp only[dH];rw[h x (by simp[Op.operands])];simp only[h1,h2]
 |index t x i=>simp only[dH]; rw[h x (by simp[Op.operands]),h i (by simp[Op.operands]),sc]
 |extract x k=>simp only[dH]; rw[h x (by simp[Op.operands])]
 |makeFunc fn first caps=>
  cases fn with
  |func f=>simp only[dH];have :caps.toList.map (opd { S with env:=env })=caps.toList.map (opd S):=aG fun x hx=>h x (by simp[Op.operands]; right; simpa using hx);rw[this]
  | _=>simp only[dH]; exact sc
 |unOp op t x=>
  cases op with
  |not=>simp only[dH]; rw[h x (by simp[Op.operands])]
  | _=>simp only[dH]; exact sc
 |binOp op t x y t'=>have hx:=h x (by simp[Op.operands]);have hy:=h y (by simp[Op.operands]);cases op<;>simp only[dH]<;>first |exact sc|rw[hx,hy,sc]
 |call c=>
  obtain⟨cl,as,ts⟩:=c;cases cl with
  |builtin b=>
   cases b with
   |len=>
    simp only[dH];rw[sc];split
    ·rename_i x t e1 e2;have e1:as= #[x] :=by apply Array.ext'; simpa using e1
     subst e1;rw[h x (by simp[Op.operands,Call.operands])]
    ·rfl
   |cap=>
    simp only[dH];rw[sc];split
    ·rename_i x t e1 e2;have e1:as= #[x] :=by apply Array.ext'; simpa using e1
     subst e1;rw[h x (by simp[Op.operands,Call.operands])]
    ·rfl
   |max=>have :as.toList.map (opd { S with env:=env })=as.toList.map (opd S):=aG fun x hx=>h x (by simp[Op.operands,Call.operands]; simpa using hx);simp only[dH];rw[this,sc]
   |min=>have :as.toList.map (opd { S with env:=env })=as.toList.map (opd S):=aG fun x hx=>h x (by simp[Op.operands,Call.operands]; simpa using hx);simp only[dH];rw[this,sc]
   | _=>simp only[dH]; exact sc
  |value f=>
   simp only[dH];rw[rr (h f (by simp[Op.operands,Call.operands]))]
   congr 1
   funext x
   obtain⟨g,caps⟩:=x;simp only;rw[uA caps (fun x hx=>h x (by simp[Op.operands,Call.operands,hx]))]
  |invoke r m=>simp only[dH]; exact sc
 | _=>simp only[dH]; exact sc
end
end
section
open Go Go.RowKit
section
variable {P:Program} {w0 w w':World} {W:Nat->Prop} {btI bt bt':Bt} {SI S S' SV:St} {a a':Act} {D:mu} {Q:Exit->Act->World->Prop} {ops:Array Oper}
def CQ (ops:List Oper) (B:List (List Nat)):Bool:=(List.range ops.length).all fun j=>(B.getD j []).all fun i=>decide (i<j)&&match ops[j]? with
 |some o=>o.after.toList.any fun e=>Region.binds .any e&&(e.on==i||(B.getD e.on []).contains i)
 |none=>false
def uB (all:Array Oper) (B:List (List Nat)) (i j:Nat) (oi oj:Oper):Bool:=
 (i==j||((oi.dst.isNone||oi.dst != oj.dst)&&(!(dF oj&&(!dF oi||decide (i<j)))||(B.getD j []).contains i||(!dF oi&& !kw oi))))&&
 (match oi.dst with |some d=> !(oj.looksAt all).contains d||(B.getD j []).contains i||(!dF oj&&(i==j||(B.getD i []).contains j))|none=>true)
def uC (P:Program) (all:Array Oper):Bool:=
 let ops:=all.toList
 let B:=eY ops
 CQ ops B&&(List.range ops.length).all fun j=>match ops[j]? with
  |none=>false
  |some oj=>kQ P oj&&(oj.after.toList.all fun e=> !Region.binds .any e||decide (e.on<j))&&(!dF oj||(oj.dst.isNone&&oj.guard.isNone))&&
   (List.range ops.length).all fun i=>match ops[i]? with |none=>false|some oi=>uB all B i j oi oj
structure IW (P:Program) (ops:Array Oper) (B:List (List Nat)):Prop where
 lt: ∀ (j i:Nat),j<ops.size->i∈B.getD j [] ->i<j
 edge: ∀ (j i:Nat) (o:Oper),ops[j]? =some o->i∈B.getD j [] -> ∃e∈o.after,Region.binds .any e=true/\(e.on=i\/i∈B.getD e.on [])
 ok: ∀ (j:Nat) (o:Oper),ops[j]? =some o->kQ P o=true
 on: ∀ (j:Nat) (o:Oper) (e:Edge),ops[j]? =some o->e∈o.after->Region.binds .any e=true->e.on<j
 st: ∀ (j:Nat) (o:Oper),ops[j]? =some o->dF o=true->o.dst=none/\o.guard=none
 dst: ∀ (i j:Nat) (oi oj:Oper) (d:Tmp),ops[i]? =some oi->ops[j]? =some oj->oi.dst=some d->oj.dst=some d->i=j
 late: ∀ (i j:Nat) (oi oj:Oper),ops[i]? =some oi->ops[j]? =some oj->i≠j->dF oj=true->(dF oi=false\/i<j)->i∈B.getD j [] \/(dF oi=false/\kw oi=false)
 look: ∀ (i j:Nat) (oi oj:Oper) (d:Tmp),ops[i]? =some oi->ops[j]? =some oj->oi.dst=some d->d∈oj.looksAt ops->i∈B.getD j [] \/(dF oj=false/\(i=j\/j∈B.getD i []))
theorem zJ (h:uC P ops=true):IW P ops (eY ops.toList):=by
 unfold uC at h;simp only[ao] at h;obtain⟨h1,h2⟩:=h
 have lst: ∀ (j:Nat) (o:Oper),ops[j]? =some o->j<ops.toList.length/\ops.toList[j]? =some o:=by intro j o ho;refine⟨?_,by simpa using ho⟩;have:=(aD.1 ho).1;simpa using this
 have h3: ∀ (j:Nat) (oj:Oper),ops[j]? =some oj->(kQ P oj=true/\(oj.after.toList.all fun e=> !Region.binds .any e||decide (e.on<j))=true)/\(!dF oj||(oj.dst.isNone&&oj.guard.isNone))=true/\
   ∀ (i:Nat) (oi:Oper),ops[i]? =some oi->uB ops (eY ops.toList) i j oi oj=true:=by
  intro j oj hj;obtain⟨l1,l2⟩:=lst j oj hj;have:=au.1 h2 j (bk.2 l1);simp only[l2,ao] at this;refine⟨this.1.1,this.1.2,fun i oi hi=> ?_⟩;obtain⟨m1,m2⟩:=lst i oi hi;have:=au.1 this.2 i (bk.2 m1);simpa only[m2] using this
 have h4: ∀ (j i:Nat),j<ops.size->i∈(eY ops.toList).getD j [] ->i<j/\ ∀o,ops[j]? =some o-> ∃e∈o.after,Region.binds .any e=true/\(e.on=i\/i∈(eY ops.toList).getD e.on []):=by intro j i hj hi;unfold CQ at h1;have:=au.1 (au.1 h1 j (bk.2 (by simpa using hj))) i hi;simp only[ao,decide_eq_true_eq] at this;refine⟨this.1,fun o ho=> ?_⟩;have h5:=this.2;rw[(lst j o ho).2] at h5;simp only[bN,ao,bg,beq_iff_eq,bh] at h5;obtain⟨e,he,hb,hc⟩:=h5;exact⟨e,by simpa using he,hb,hc⟩
 refine⟨fun j i hj hi=>(h4 j i hj hi).1,fun j i o ho hi=>(h4 j i (aD.1 ho).1 hi).2 o ho,fun j o ho=>(h3 j o ho).1.1,fun j o e ho he hb=> ?_,fun j o ho hs=> ?_,fun i j oi oj d hi hj hdi hdj=> ?_,fun i j oi oj hi hj hne hs hor=> ?_,fun i j oi oj d hi hj hd hl=> ?_⟩
 ·have:=au.1 (h3 j o ho).1.2 e (by simpa using he);simpa [hb] using this
 ·have:=(h3 j o ho).2.1;simp only[hs,bq,cB,ao,cE] at this;exact this
 ·have:=(h3 j oj hj).2.2 i oi hi;unfold uB at this;simp only[ao,bg,beq_iff_eq] at this;rcases this.1 with h|h
  ·exact h
  ·have:=h.1;rw[hdi,hdj] at this;simp at this
 ·have:=(h3 j oj hj).2.2 i oi hi;unfold uB at this;simp only[ao,bg,beq_iff_eq] at this;rcases this.1 with h|h
  ·exact absurd h hne
  ·rcases h.2 with h'|h'
   ·rcases h' with h'|h'
    ·exfalso;rcases hor with hor|hor<;>simp[hs,hor] at h'
    ·exact .inl (bh.1 h')
   ·simp only[bL] at h';exact .inr h'
 ·have:=(h3 j oj hj).2.2 i oi hi;unfold uB at this;simp only[ao] at this;have h':=this.2;rw[hd] at h';simp only[bg,ao,bL,bh,beq_iff_eq] at h';rcases h' with (h'|h')|h'
  ·rw[bh.2 hl] at h';cases h'
  ·exact .inl h'
  ·exact .inr h'
end
end
section
open Go Go.RowKit
section
variable {P:Program} {w0 w:World} {W:Nat->Prop} {bt:Bt} {S:St} {a:Act}
theorem t6: ∀ {l:List Nat},IM l=true↔l.Nodup
 | [] =>by simp[IM]
 |a::l=>by unfold IM;rw[ao,t6 (l:=l),List.nodup_cons];simp
theorem xV: ∀ {l:List Nat} {r:Nat},r∈l->r<xK l
 | [],_,h=>by cases h
 |a::l,r,h=>by
  unfold xK;rcases aR.1 h with rfl|h
  ·omega
  ·have:=xV h;omega
theorem qI {l:List Nat} {r:Nat}:r∈jJ l↔r∈l:=by
 unfold jJ;rw[cM,bk];constructor
 ·rintro⟨_,h⟩
  simpa using h
 ·intro h;exact⟨xV h,by simpa using h⟩
theorem jZ (l:List Nat) (r:Nat): (jJ l).contains r=l.contains r:=by rw[bZ,bh,bh,qI]
theorem oA {s:Nat} {v:AV} {x:T} {l:List Nat} (h:jc S s v=some (x,l)):
  (l= [] /\ ∀ (w:World) (bt:Bt) (c:Value),VR w bt v c->CR x c)\/ ∃q len rows,v= .own ⟨q,[]⟩ s 0 len/\S.fz<=q/\S.look ⟨q,[]⟩= .sl s rows/\len<=rows.length/\x= .sl s (rows.take len)/\l= [q] :=by
 unfold jc at h;split at h
 ·simp only[ae,al] at h;obtain⟨rfl,rfl⟩:=h;exact .inl ⟨rfl,fun w bt c hv=>CR.ofSc hv⟩
 ·split at h
  ·simp only[ae,al] at h;obtain⟨rfl,rfl⟩:=h;refine .inl ⟨rfl,fun w bt c hv=> ?_⟩;cases hv with
   |em a=>exact .em _ a
  ·rename_i q s' lo len;split at h
   ·rename_i hc;obtain⟨h1,rfl,rfl,h4⟩:=hc;simp only[aj] at h;obtain⟨rows,hr,h⟩:=h;split at h
    ·rename_i hle;simp only[ae,al] at h;obtain⟨rfl,rfl⟩:=h;obtain⟨qr,ql⟩:=q;simp only at h1;subst h1;exact .inr ⟨qr,len,rows,rfl,h4,gC hr,hle,rfl,rfl⟩
    ·cases h
   ·cases h
  ·cases h
theorem td: ∀ {ss:List Nat} {vs:List AV} {xs:List T} {L:List Nat},gl S ss vs=some (xs,L)->xs.length=vs.length/\ss.length=vs.length/\
  (∀ (j:Nat) (v:AV),vs[j]? =some v-> ∃s x l,ss[j]? =some s/\xs[j]? =some x/\jc S s v=some (x,l)/\ ∀q∈l,q∈L)/\
  (L.Nodup-> ∀ (j j':Nat) (v v':AV) (s s':Nat) (x x':T) (q:Nat),vs[j]? =some v->vs[j']? =some v'->ss[j]? =some s->ss[j']? =some s'->jc S s v=some (x,[q])->jc S s' v'=some (x',[q])->j=j')
 | [],[],xs,L,h=>by simp only[gl,ae,al] at h;obtain⟨rfl,rfl⟩:=h;exact⟨rfl,rfl,fun j v h=>by simp at h,fun _ j j' v v' s s' x x' q h=>by simp at h⟩
 |s::ss,v::vs,xs,L,h=>by
  simp only[gl,aj,ak,Prod.exists,al] at h;obtain⟨x,l,h1,xs',L',h2,rfl,rfl⟩:=h;obtain⟨e1,e2,e3,e4⟩:=td h2;refine⟨by simp[e1],by simp[e2],fun j u hj=> ?_,fun hnd j j' u u' t t' y y' q g1 g2 g3 g4 g5 g6=> ?_⟩
  ·cases j with
   |zero=>simp only[aF,ae] at hj;subst hj;exact⟨s,x,l,rfl,rfl,h1,fun q hq=>bP _ hq⟩
   |succ j=>obtain⟨t,y,l',k1,k2,k3,k4⟩:=e3 j u (by simpa using hj);exact⟨t,y,l',by simpa using k1,by simpa using k2,k3,fun q hq=>cz _ (k4 q hq)⟩
  ·rw[List.nodup_append] at hnd;obtain⟨n1,n2,n3⟩:=hnd
   have zero: ∀ (u:AV) (t:Nat) (y:T),(v::vs)[0]? =some u->(s::ss)[0]? =some t->jc S t u=some (y,[q])->q∈l:=by intro u t y k1 k2 k3;simp only[aF,ae] at k1 k2;subst k1 k2;rw[h1] at k3;simp only[ae,al] at k3;rw[k3.2];exact ay.2 rfl
   have succ: ∀ (i:Nat) (u:AV) (t:Nat) (y:T),vs[i]? =some u->ss[i]? =some t->jc S t u=some (y,[q])->q∈L':=by intro i u t y k1 k2 k3;obtain⟨t',y',l',m1,m2,m3,m4⟩:=e3 i u k1;rw[k2] at m1;simp only[ae] at m1;subst m1;rw[k3] at m3;simp only[ae,al] at m3;exact m4 q (by rw[<-m3.2]; exact ay.2 rfl)
   cases j with
   |zero=>
    cases j' with
    |zero=>rfl
    |succ j'=>exact absurd rfl (n3 q (zero u t y g1 g3 g5) q (succ j' u' t' y' (by simpa using g2) (by simpa using g4) g6))
   |succ j=>
    cases j' with
    |zero=>exact absurd rfl (n3 q (zero u' t' y' g2 g4 g6) q (succ j u t y (by simpa using g1) (by simpa using g3) g5))
    |succ j'=>rw[e4 n2 j j' u u' t t' y y' q (by simpa using g1) (by simpa using g2) (by simpa using g3) (by simpa using g4) g5 g6]
 | [],_::_,_,_,h=>by simp[gl] at h
 | _::_,[],_,_,h=>by simp[gl] at h
def ij (S:St) (ss:List Nat) (vss:List (List AV)) (i j q:Nat):Prop:= ∃vs v s x,vss[i]? =some vs/\vs[j]? =some v/\ss[j]? =some s/\jc S s v=some (x,[q])
theorem te {ss:List Nat}: ∀ {vss:List (List AV)} {rows:List (List T)} {L:List Nat},fE S ss vss=some (rows,L)->rows.length=vss.length/\
  (∀ (i:Nat) (vs:List AV),vss[i]? =some vs-> ∃r,rows[i]? =some r/\r.length=vs.length/\ ∀ (j:Nat) (v:AV),vs[j]? =some v-> ∃s x l,ss[j]? =some s/\r[j]? =some x/\jc S s v=some (x,l)/\ ∀q∈l,q∈L)/\
  (L.Nodup-> ∀ (i i' j j' q:Nat),ij S ss vss i j q->ij S ss vss i' j' q->i=i'/\j=j')
 | [],rows,L,h=>by simp only[fE,ae,al] at h;obtain⟨rfl,rfl⟩:=h;exact⟨rfl,fun i vs h=>by simp at h,fun _ i i' j j' q ⟨vs,v,s,x,h,_⟩=>by simp at h⟩
 |vs::vss,rows,L,h=>by
  simp only[fE,aj,ak,Prod.exists,al] at h;obtain⟨r,l,h1,rs,L',h2,rfl,rfl⟩:=h;obtain⟨e1,e2,e3⟩:=te h2;obtain⟨f1,f2,f3,f4⟩:=td h1;refine⟨by simp[e1],fun i us hi=> ?_,fun hnd i i' j j' q g1 g2=> ?_⟩
  ·cases i with
   |zero=>simp only[aF,ae] at hi;subst hi;refine⟨r,rfl,f1,fun j v hj=> ?_⟩;obtain⟨s,x,l',k1,k2,k3,k4⟩:=f3 j v hj;exact⟨s,x,l',k1,k2,k3,fun q hq=>bP _ (k4 q hq)⟩
   |succ i=>obtain⟨r',k1,k2,k3⟩:=e2 i us (by simpa using hi);refine⟨r',by simpa using k1,k2,fun j v hj=> ?_⟩;obtain⟨s,x,l',m1,m2,m3,m4⟩:=k3 j v hj;exact⟨s,x,l',m1,m2,m3,fun q hq=>cz _ (m4 q hq)⟩
  ·rw[List.nodup_append] at hnd;obtain⟨n1,n2,n3⟩:=hnd
   have zero: ∀ (j:Nat),ij S ss (vs::vss) 0 j q->q∈l:=by
    rintro j ⟨us,v,s,x,k1,k2,k3,k4⟩
    simp only[aF,ae] at k1;subst k1;obtain⟨s',x',l',m1,m2,m3,m4⟩:=f3 j v k2;rw[k3] at m1;simp only[ae] at m1;subst m1;rw[k4] at m3;simp only[ae,al] at m3;exact m4 q (by rw[<-m3.2]; exact ay.2 rfl)
   have mC: ∀ (i j:Nat),ij S ss (vs::vss) (i+1) j q->ij S ss vss i j q:=by
    rintro i j ⟨us,v,s,x,k1,k2,k3,k4⟩
    exact⟨us,v,s,x,by simpa using k1,k2,k3,k4⟩
   have succ: ∀ (i j:Nat),ij S ss vss i j q->q∈L':=by
    rintro i j ⟨us,v,s,x,k1,k2,k3,k4⟩
    obtain⟨r',m1,m2,m3⟩:=e2 i us k1;obtain⟨s',x',l',p1,p2,p3,p4⟩:=m3 j v k2;rw[k3] at p1;simp only[ae] at p1;subst p1;rw[k4] at p3;simp only[ae,al] at p3;exact p4 q (by rw[<-p3.2]; exact ay.2 rfl)
   cases i with
   |zero=>
    cases i' with
    |zero=>obtain⟨us,v,s,x,k1,k2,k3,k4⟩:=g1;obtain⟨us',v',s',x',k1',k2',k3',k4'⟩:=g2;simp only[aF,ae] at k1 k1';subst k1 k1';exact⟨rfl,f4 n1 j j' v v' s s' x x' q k2 k2' k3 k3' k4 k4'⟩
    |succ i'=>exact absurd rfl (n3 q (zero j g1) q (succ i' j' (mC i' j' g2)))
   |succ i=>
    cases i' with
    |zero=>exact absurd rfl (n3 q (zero j' g2) q (succ i j (mC i j g1)))
    |succ i'=>obtain⟨h1,h2⟩:=e3 n2 i i' j j' q (mC i j g1) (mC i' j' g2);exact⟨by rw[h1],h2⟩
theorem tf: ∀ {ss:List Nat} {vs:List AV} {xs:List T} {L:List Nat},gl S ss vs=some (xs,L)-> ∀q∈L,S.fz<=q/\ ∃v∈vs,∃s len,v= .own ⟨q,[]⟩ s 0 len
 | [],[],xs,L,h=>by simp only[gl,ae,al] at h;obtain⟨rfl,rfl⟩:=h;intro q hq;cases hq
 |s::ss,v::vs,xs,L,h=>by
  simp only[gl,aj,ak,Prod.exists,al] at h;obtain⟨x,l,h1,xs',L',h2,rfl,rfl⟩:=h;intro q hq;rcases bz.1 hq with hq|hq
  ·rcases oA h1 with ⟨rfl,_⟩| ⟨q',len,rows,e1,e2,_,_,_,rfl⟩
   ·cases hq
   ·rw[ay.1 hq];exact⟨e2,v,aH,s,len,e1⟩
  ·obtain⟨g1,u,g2,g3⟩:=tf h2 q hq;exact⟨g1,u,aE _ g2,g3⟩
 | [],_::_,_,_,h=>by simp[gl] at h
 | _::_,[],_,_,h=>by simp[gl] at h
theorem pd {ss:List Nat}: ∀ {vss:List (List AV)} {rows:List (List T)} {L:List Nat},fE S ss vss=some (rows,L)-> ∀q∈L,S.fz<=q/\ ∃vs∈vss,∃v∈vs,∃s len,v= .own ⟨q,[]⟩ s 0 len
 | [],rows,L,h=>by simp only[fE,ae,al] at h;obtain⟨rfl,rfl⟩:=h;intro q hq;cases hq
 |vs::vss,rows,L,h=>by
  simp only[fE,aj,ak,Prod.exists,al] at h;obtain⟨r,l,h1,rs,L',h2,rfl,rfl⟩:=h;intro q hq;rcases bz.1 hq with hq|hq
  ·obtain⟨g1,g2⟩:=tf h1 q hq;exact⟨g1,vs,aH,g2⟩
  ·obtain⟨g1,us,g2,g3⟩:=pd h2 q hq;exact⟨g1,us,aE _ g2,g3⟩
theorem qJ {L:List Nat} {p:eb} {s:Nat} {rs:List (List T)} (h: (dropL S L).look p= .sl s rs):p.r∉L/\S.look p= .sl s rs:=by
 unfold St.look dropL at h;simp only at h;by_cases hp:L.contains p.r=true
 ·rw[if_pos hp] at h;cases h
 ·rw[if_neg hp] at h;exact⟨by simpa using hp,h⟩
theorem eK.dropL (hI:eK w0 W bt S w) (L:List Nat):eK w0 W bt (dropL S L) w:=
 hI.less (fun r t h=>by
  split at h
  ·cases h
  ·exact h)
open Classical in
noncomputable def qn (bt:Bt) (S:St) (ss:List Nat) (vss:List (List AV)) (b n:Nat):Bt:= { bt with
 β:=fun p=>match p.l with | [] =>b| (i,j)::l=>if h: ∃q,ij S ss vss i j q then bt.β ⟨Classical.choose h,l⟩ else 0
 κ:=fun p=>match p.l with | [] =>n| (i,j)::l=>if h: ∃q,ij S ss vss i j q then bt.κ ⟨Classical.choose h,l⟩ else 0 }
theorem ij.uniq {ss:List Nat} {vss:List (List AV)} {i j q q':Nat} (h:ij S ss vss i j q) (h':ij S ss vss i j q'):q=q':=by obtain⟨us,v,s,x,k1,k2,k3,k4⟩:=h;obtain⟨us',v',s',x',k1',k2',k3',k4'⟩:=h';rw[k1] at k1';cases k1';rw[k2] at k2';cases k2';rw[k3] at k3';cases k3';rw[k4] at k4';simp only[ae,al,bo,and_true] at k4';exact k4'.2
theorem rt {ss:List Nat} {vss:List (List AV)} {b n i j q:Nat} (h:ij S ss vss i j q) (r:Nat) (l:List (Nat×Nat)): (qn bt S ss vss b n).β ⟨r,(i,j)::l⟩=bt.β ⟨q,l⟩/\(qn bt S ss vss b n).κ ⟨r,(i,j)::l⟩=bt.κ ⟨q,l⟩:=by
 have hx: ∃q,ij S ss vss i j q:=⟨q,h⟩
 have e:Classical.choose hx=q:=(Classical.choose_spec hx).uniq h;unfold qn;simp only;rw[dif_pos hx,dif_pos hx,e];exact⟨rfl,rfl⟩
theorem E8 {ss:List Nat} {vss:List (List AV)} {b n i j:Nat} (h: ∀q,¬ij S ss vss i j q) (r:Nat) (l:List (Nat×Nat)): (qn bt S ss vss b n).κ ⟨r,(i,j)::l⟩=0:=by unfold qn;simp only;rw[dif_neg (fun ⟨q,hq⟩=>h q hq)]
theorem xW (hI:eK w0 W bt S w) (hE:ER w bt S a) (hfz:S.fz<=S.ng) {t el:TypeId} {len:Nat} {parts:Array (Nat×Operand)} {rows:List (List T)} {L:List Nat} (hel:o6 P t=some el) (h20:len*P.cellsOf el<=2 ^ 20)
  (hix:parts.toList.map (·.1)=List.range len) (hpos:0<P.cellsOf el) (hz: (se P el).isSome=true) (hall:parts.toList.all (fun x=>(opd S x.2).cells.length=P.cellsOf el&& !(opd S x.2).isDead)=true)
  (hp:fE S (ku P 9 el) (parts.toList.map fun x=>(opd S x.2).cells)=some (rows,L)) (hnd:IM L=true):
  ∃u w' bt',(Instr.buildSlice t len (parts.map fun x=>(x.1,a.eval x.2))).run P w= .ok u w'/\fX w0 W bt S a bt' (S.make ⟨S.ng,[.sl (P.cellsOf el) rows],jJ L⟩) w'/\bt.le bt'/\VR w' bt' (.own ⟨S.ng,[]⟩ (P.cellsOf el) 0 len) u:=by
 obtain⟨cs,hrun,hcs,hcell,hone⟩:=mB (a:=a) hE hel h20 hix hpos hz hall;obtain⟨p1,p2,p3⟩:=te hp;have p3:=p3 (t6.1 hnd)
 have hpl:parts.toList.length=len:=by have:=congrArg List.length hix;simpa using this
 have hrl:rows.length=len:=by rw[p1,aB,hpl]
 generalize hvss: (parts.toList.map fun x=>(opd S x.2).cells)=vss at*
 have hparts: ∀ (i:Nat) (vs:List AV),vss[i]? =some vs-> ∃x,parts.toList[i]? =some x/\vs=(opd S x.2).cells/\vs.length=P.cellsOf el:=by intro i vs hi;rw[<-hvss,an] at hi;simp only[ak] at hi;obtain⟨x,hx,rfl⟩:=hi;have:=au.1 hall x (aq hx);simp only[ao,decide_eq_true_eq] at this;exact⟨x,hx,rfl,this.1⟩
 have cellAt: ∀ (i j:Nat) (r:List T) (x:T),rows[i]? =some r->r[j]? =some x-> ∃vs v s l c,vss[i]? =some vs/\vs[j]? =some v/\(ku P 9 el)[j]? =some s/\jc S s v=some (x,l)/\(∀q∈l,q∈L)/\r.length=P.cellsOf el/\cs[i*P.cellsOf el+j]? =some c/\VR w bt v c:=by
  intro i j r x hi hj;have hil:i<vss.length:=by rw[<-p1]; exact (ai.1 hi).1
  obtain⟨r',k1,k2,k3⟩:=p2 i _ (ah hil);rw[hi] at k1;cases k1;have hjl:j<vss[i].length:=by rw[<-k2]; exact (ai.1 hj).1
  obtain⟨s,x',l,m1,m2,m3,m4⟩:=k3 j _ (ah hjl);rw[hj] at m2;cases m2;obtain⟨y,hy,e1,e2⟩:=hparts i _ (ah hil);obtain⟨c,q1,q2,_⟩:=hcell i y j vss[i][j] hy (by rw[<-e1]; exact ah hjl);exact⟨_,_,s,l,c,ah hil,ah hjl,m1,m3,m4,by rw[k2,e2],q1,q2⟩
 have giveL: ∀i j q,ij S (ku P 9 el) vss i j q->q∈L/\ ∃s rs,S.look ⟨q,[]⟩= .sl s rs:=by
  rintro i j q ⟨vs,v,s,x,k1,k2,k3,k4⟩
  obtain⟨r',m1,m2,m3⟩:=p2 i vs k1;obtain⟨s',x',l',n1,n2,n3,n4⟩:=m3 j v k2;rw[k3] at n1;cases n1;rw[k4] at n3;simp only[ae,al] at n3;refine⟨n4 q (by rw[<-n3.2]; exact ay.2 rfl),?_⟩;rcases oA k4 with ⟨h,_⟩| ⟨q',len',rows',_,_,h3,_,_,h6⟩
  ·cases h
  ·simp only[bo,and_true] at h6;subst h6;exact⟨s,rows',h3⟩
 have hIL:=hI.dropL L;have hEL:ER w bt (dropL S L) a:=⟨hE.1,hE.2⟩
 let btn:=qn bt S (ku P 9 el) vss w.heap.size len
 have below: ∀p s rs,(jY [.sl (P.cellsOf el) rows]).look p= .sl s rs->p.r=0/\((p.l= [] /\s=P.cellsOf el/\rs=rows)\/
   ∃i j l,p.l=(i,j)::l/\(((∀q,¬ij S (ku P 9 el) vss i j q)/\rs= [])\/ ∃q rs0,ij S (ku P 9 el) vss i j q/\S.look ⟨q,l⟩= .sl s rs0/\ ∃n,rs=rs0.take n)):=by
  intro p s rs h;obtain⟨h0,h1⟩:=pN h;refine⟨h0,?_⟩;rcases h1 with h1| ⟨i,j,l,r,x,hl,h2,h3,h4⟩
  ·exact .inl h1
  ·obtain⟨vs,v,s',l',c,k1,k2,k3,k4,k5,k6,k7,k8⟩:=cellAt i j r x h2 h3;refine .inr ⟨i,j,l,hl,?_⟩;rcases oA k4 with ⟨e1,e2⟩| ⟨q,len',rows',e1,e2,e3,e4,e5,e6⟩
   ·left;refine⟨fun q ⟨vs',v',s'',x',m1,m2,m3,m4⟩=> ?_,(e2 w bt c k8).go h4⟩;rw[k1] at m1;cases m1;rw[k2] at m2;cases m2;rw[k3] at m3;cases m3;rw[k4] at m4;simp only[ae,al] at m4;rw[e1] at m4;cases m4.2
   ·right;subst e5 e6
    obtain⟨ht,hr,hgo⟩: ∃t,S.gh q=some t/\t= .sl s' rows':=by
     unfold St.look at e3;simp only at e3;split at e3
     ·rename_i t ht;exact⟨t,ht,e3⟩
     ·cases e3
    subst hgo;rcases T.go_take h4 with ⟨rfl,rfl,rfl⟩| ⟨hm,hg⟩
    ·exact⟨q,rows',⟨vs,v,s,_,k1,k2,k3,k4⟩,e3,len',rfl⟩
    ·refine⟨q,rs,⟨vs,v,s',_,k1,k2,k3,k4⟩,?_,rs.length,(bH).symm⟩;unfold St.look;simp only[hr];exact hg
 have nested: ∀p s rs,(jY [.sl (P.cellsOf el) rows]).look p= .sl s rs->0<btn.κ p->(p=⟨0,[]⟩/\s=P.cellsOf el/\rs=rows)\/ ∃i j l q rs0 n,p=⟨0,(i,j)::l⟩/\ij S (ku P 9 el) vss i j q/\S.look ⟨q,l⟩= .sl s rs0/\rs=rs0.take n/\btn.β p=bt.β ⟨q,l⟩/\btn.κ p=bt.κ ⟨q,l⟩:=by
  intro p s rs h hk;obtain⟨pr,pl⟩:=p;obtain⟨h0,h1⟩:=below _ _ _ h;simp only at h0;subst h0;rcases h1 with ⟨h1,h2,h3⟩| ⟨i,j,l,hl,⟨h1,_⟩| ⟨q,rs0,h1,h2,n,h3⟩⟩
  ·simp only at h1;subst h1;exact .inl ⟨rfl,h2,h3⟩
  ·simp only at hl;subst hl;have:=E8 (bt:=bt) (b:=w.heap.size) (n:=len) h1 0 l;have hk':0< (qn bt S (ku P 9 el) vss w.heap.size len).κ ⟨0,(i,j)::l⟩:=hk;omega
  ·simp only at hl;subst hl;obtain⟨e1,e2⟩:=rt (bt:=bt) (b:=w.heap.size) (n:=len) h1 0 l;exact .inr ⟨i,j,l,q,rs0,n,rfl,h1,h2,h3,e1,e2⟩
 obtain⟨f1,f2,f3⟩:=hI.fresh (b:=w.heap.size) (aw _);have hb:=ka w (.cells cs el)
 have hsub: ∀ (q r:Nat) (l:List (Nat×Nat)) (i j i' j':Nat),ij S (ku P 9 el) vss i j q->btn.β ((⟨r,(i,j)::l⟩:eb).sub i' j')=bt.β ((⟨q,l⟩:eb).sub i' j')/\btn.κ ((⟨r,(i,j)::l⟩:eb).sub i' j')=bt.κ ((⟨q,l⟩:eb).sub i' j'):=by intro q r l i j i' j' hq;exact rt hq r (l++ [(i',j')])
 have:=xQ hIL hEL (by exact hfz) (mA.of_below hb) (sz:=P.cellsOf el) (rows:=rows) btn
  (fun p s rs h=>by
    refine⟨?_,fun hk=> ?_⟩
    ·obtain⟨pr,pl⟩:=p;obtain⟨h0,h1⟩:=below _ _ _ h;simp only at h0;subst h0;rcases h1 with ⟨h1,h2,h3⟩| ⟨i,j,l,hl,⟨_,h2⟩| ⟨q,rs0,h1,h2,n,h3⟩⟩
     ·simp only at h1;subst h1 h3;show rs.length<=len;omega
     ·rw[h2];exact ba _
     ·simp only at hl;subst hl;obtain⟨_,e2⟩:=rt (bt:=bt) (b:=w.heap.size) (n:=len) h1 0 l;show rs.length<=(qn bt S (ku P 9 el) vss w.heap.size len).κ _;rw[e2];have:=(hI.tr _ _ _ h2).1;rw[h3,cr];omega
    ·rcases nested p s rs h hk with ⟨rfl,rfl,rfl⟩| ⟨i,j,l,q,rs0,n,rfl,h1,h2,h3,e1,e2⟩
     ·refine⟨.inl hI.size,cs,el,mz w _,by show len*_<=_; rw[hcs]; exact aw _,hone,fun i r hi=> ?_⟩;have hil:i<vss.length:=by rw[<-p1]; exact (ai.1 hi).1
      obtain⟨r',k1,k2,k3⟩:=p2 i _ (ah hil);rw[hi] at k1;cases k1;obtain⟨y,hy,e1,e2⟩:=hparts i _ (ah hil);refine⟨by rw[k2,e2],fun j x hj=> ?_⟩;obtain⟨vs,v,s',l',c,k1,k2,k3,k4,k5,k6,k7,k8⟩:=cellAt i j r x hi hj;refine⟨c,k7,?_⟩;rcases oA k4 with ⟨e1,e2⟩| ⟨q,len',rows',rfl,e2,e3,e4,rfl,rfl⟩
      ·exact (e2 w bt c k8).hr _ _
      ·have hg:ij S (ku P 9 el) vss i j q:=⟨vs,_,s',_,k1,k2,k3,k4⟩
       obtain⟨m1,m2⟩:=rt (bt:=bt) (b:=w.heap.size) (n:=len) hg 0 [];cases k8 with
       |own hp hc hk ha=>
        rename_i ad cap;have hl: (rows'.take len').length=len':=by simp; omega
        have:=HR.sl (bt:=btn) (p:=(⟨0,[]⟩:eb).sub i j) (sz:=s') (rows:=rows'.take len') (a:=ad) (cap:=cap) (by rw[hl]; exact hc) (by show cap<=(qn bt S (ku P 9 el) vss w.heap.size len).κ ⟨0,(i,j):: []⟩; rw[m2]; omega) (fun h=>by show ad=some ⟨(qn bt S (ku P 9 el) vss w.heap.size len).β ⟨0,(i,j):: []⟩,0,none⟩;rw[m1,ha h,cm])
        rw[hl] at this;exact this
     ·rw[e2] at hk;obtain⟨g1,cs0,ee,k1,k2,k3,k4⟩:=(hI.tr _ _ _ h2).2 hk;rw[e1];refine⟨g1,cs0,ee,?_,by rw[e2]; exact k2,k3,fun i' r hi=> ?_⟩
      ·rw[e1];have hlt:=hI.βlt h2 hk;rw[hb.block _ hlt];exact k1
      ·rw[h3,aZ] at hi;split at hi
       ·obtain⟨m1,m2⟩:=k4 i' r hi;refine⟨m1,fun j' x hj=> ?_⟩;obtain⟨c,m3,m4⟩:=m2 j' x hj
        exact⟨c,m3,by
         obtain⟨z1,z2⟩:=hsub q 0 l i j i' j' h1;cases m4 with
         |sc h=>exact .sc h
         |dd u=>exact .dd _
         |sl hc hk ha=>exact .sl hc (by rw[z2]; exact hk) (by rw[z1]; exact ha)⟩
       ·cases hi)
  (fun p q s rs s' rs' h h' hk hk' he=>by
    rcases nested p s rs h hk with ⟨rfl,rfl,rfl⟩| ⟨i,j,l,q1,rs0,n,rfl,h1,h2,h3,e1,e2⟩<;>rcases nested q s' rs' h' hk' with ⟨rfl,rfl,rfl⟩| ⟨i',j',l',q2,rs0',n',rfl,h1',h2',h3',e1',e2'⟩
    ·rfl
    ·rw[e1'] at he;rw[e2'] at hk';have:=hI.βlt h2' hk';have he':w.heap.size=bt.β ⟨q2,l'⟩:=he;omega
    ·rw[e1] at he;rw[e2] at hk;have:=hI.βlt h2 hk;have he':bt.β ⟨q1,l⟩=w.heap.size:=he;omega
    ·rw[e1,e1'] at he;rw[e2] at hk;rw[e2'] at hk';have:=hI.inj _ _ _ _ _ _ h2 h2' hk hk' he;simp only[eb.mk.injEq] at this;obtain⟨rfl,rfl⟩:=this;obtain⟨rfl,rfl⟩:=p3 i i' j j' q1 h1 h1';rfl)
  (fun p s rs h hk=>by
    rcases nested p s rs h hk with ⟨rfl,rfl,rfl⟩| ⟨i,j,l,q,rs0,n,rfl,h1,h2,h3,e1,e2⟩
    ·refine⟨f1,fun q s rs hq hkq=>f2 q s rs (qJ hq).2 hkq,f3⟩
    ·rw[e2] at hk;rw[e1];refine⟨fun n cs hn=>hI.bbtr _ _ _ _ _ hn h2 hk,fun q' s' rs' hq hkq he=> ?_,hI.atr _ _ _ h2 hk⟩;obtain⟨z1,z2⟩:=qJ hq;have:=hI.inj _ _ _ _ _ _ z2 h2 hkq hk he;subst this;exact z1 (giveL i j q h1).1)
 obtain⟨bt',g1,g2,g3,g4,g5⟩:=this
 have hmk:S.make ⟨S.ng,[.sl (P.cellsOf el) rows],jJ L⟩= { dropL S L with gh:=eh (dropL S L).gh S.ng (some (.sl (P.cellsOf el) rows)),ng:=S.ng+1 } :=by
  unfold St.make dropL;simp only[aY,bJ,aV,jZ]
  congr 1
  funext r
  simp only[eh];by_cases hr:r=S.ng
  ·subst hr; simp
  ·rw[if_neg (by omega),if_neg hr]
 refine⟨_,_,bt',hrun,?_,g2,mh g3 g4 g5 (aw _)⟩;rw[hmk];refine⟨g1.inv,g1.er,g1.fz,trivial,g1.ng,g1.keep,fun r hr hn=> ?_⟩;have:=g1.gone r hr hn;unfold dropL at this;simp only at this;split at this
 ·rename_i hc;have:=(pd hp r (by simpa using hc)).1;have hr':r<S.fz:=hr;omega
 ·exact this
end
end
section
open Go Go.RowKit
section
variable {P:Program} {w0 w wa w':World} {W:Nat->Prop} {btI bt bt0 bt1 bt':Bt} {SI S S0 S1 S':St} {a a':Act} {D:mu} {Q:Exit->Act->World->Prop}
theorem so (S:St):dropL S [] =S:=by unfold dropL;simp
theorem DK (S:St) (q:Nat):dropL S [q] = { S with gh:=eh S.gh q none } :=by
 unfold dropL
 congr 1
 funext r
 unfold eh;by_cases h:r=q
 ·subst h; simp
 ·rw[if_neg (by simpa using h),if_neg h]
theorem uD {sz:Nat} {fl:Bool} {av:AV} {more:List (List T)} {L:List Nat} (h:fL S sz fl av=some (more,L)):gA S sz fl av=some (more,dropL S L):=by
 unfold fL at h;split at h
 ·simp only[ae,al] at h;obtain⟨rfl,rfl⟩:=h;rw[so];rfl
 ·split at h
  ·rename_i hc;simp only[ae,al] at h;obtain⟨rfl,rfl⟩:=h;rw[so];simp only[gA];rw[if_pos hc]
  ·cases h
 ·rename_i p s lo len;split at h
  ·rename_i hs;simp only[aj] at h;obtain⟨rows,hr,h⟩:=h;simp only[gA];rw[if_pos hs,hr];simp only[af];split at h
   ·rename_i hc;simp only[ae,al] at h;obtain⟨rfl,rfl⟩:=h;rw[if_pos hc,DK]
   ·rename_i hc;rw[if_neg hc];split at h
    ·rename_i hc';simp only[ae,al] at h;obtain⟨rfl,rfl⟩:=h;rw[if_pos hc',so]
    ·cases h
  ·cases h
 ·cases h
theorem we (hI:eK w0 W bt S w) (hE:ER w bt S a) (hfz:S.fz<=S.ng) {t ty el:TypeId} (hel:o6 P t=some el) {bav xav:AV} {bv xv:Value} (hb:VR w bt bav bv) (hx:VR w bt xav xv) {rows more:List (List T)} {cons:List Nat}
  {fl:Bool} {L:List Nat} (hs:fL S (P.cellsOf el) fl xav=some (more,L)) (h:kj (dropL S L) (P.cellsOf el) bav=some (rows,cons)) (hby: (rows.length+more.length)*P.bytesOf el<=2 ^ 40) (hn:rows.length+more.length<=2 ^ 40) (hpos:0<P.cellsOf el) (hz: (tJ P el).isSome=true):
  ∃u w' bt',(Builtin.append_ #[t,t] ty #[bv,xv]).run P w= .ok u w'/\fX w0 W bt S a bt' (S.make ⟨S.ng,[.sl (P.cellsOf el) (rows++more)],jJ (L++cons)⟩) w'/\bt.le bt'/\VR w' bt' (.own ⟨S.ng,[]⟩ (P.cellsOf el) 0 (rows.length+more.length)) u:=by
 obtain⟨zr,hz⟩:=bu.1 hz;obtain⟨zs,h1,h2,_,_⟩:=pO hz;obtain⟨i,zv,hi,hzv,rfl,hall⟩:=jM h1;have hsz:P.cellsOf el=i.size:=by simp[Program.cellsOf,hi]
 have hbz:P.bytesOf el=i.bytes:=by simp[Program.bytesOf,hi]
 obtain⟨src,news,hsrc⟩:=rp hI hpos hx (uD hs);have hID:eK w0 W bt (dropL S L) w:=hI.dropL L;have hone: ∀u∈zv.cells.toList,u.oneCell'=true:=fun u hu=>au.1 hall u hu
 have go: ∀ {ab:Option Addr} {cap:Nat} {bp:Option eb} {olds:List Value} {S1:St},KM w bt (dropL S L) S1 (P.cellsOf el) rows bv ab cap bp olds->
   S.make ⟨S.ng,[.sl (P.cellsOf el) (rows++more)],jJ (L++cons)⟩= { S1 with gh:=eh S1.gh S.ng (some (.sl (P.cellsOf el) (rows++more))),ng:=S.ng+1 } -> ∃u w' bt',(Builtin.append_ #[t,t] ty #[bv,xv]).run P w= .ok u w'/\fX w0 W bt S a bt' (S.make ⟨S.ng,[.sl (P.cellsOf el) (rows++more)],jJ (L++cons)⟩) w'/\bt.le bt'/\VR w' bt' (.own ⟨S.ng,[]⟩ (P.cellsOf el) 0 (rows.length+more.length)) u:=by
  intro ab cap bp olds S1 hbas hSe
  obtain⟨u,w',b,cap',hr,hap⟩:=uu (P:=P) (w:=w) (t:=t) (ty:=ty) (e:=el) (i:=i) (z:=zv) (ab:=ab) (len:=rows.length) (cap:=cap) (m:=more.length) (olds:=olds) (news:=news) (x:=xv) (gK hel) hi hzv (by rw[<-hsz,<-h2]; simp) hone (by omega) hbas.le (by rw[<-hsz]; exact hbas.len) (by rw[<-hsz]; exact hsrc.len) (by rw[<-hsz]; exact hbas.cur)
   (by
     rcases hsrc.val with ⟨h,h'⟩|h
     ·exact .inl ⟨by rw[h]; rfl,h'⟩
     ·exact .inr h) hsrc.one hn (by rw[<-hbz]; exact hby)
  rw[<-hsz] at hap;obtain⟨bt',g1,g2,g3⟩:=tc hI hE hfz hsrc hbas hap;rw[hSe];refine⟨u,w',bt',?_,g1,g2,g3⟩;rw[hbas.val];exact hr
 cases hb with
 |em ab=>
  simp only[kj,ae,al] at h;obtain⟨rfl,rfl⟩:=h;refine go (ab:=ab) (cap:=0) (bp:=none) (olds:= []) (S1:=dropL S L) ⟨rfl,aw _,fun h=>absurd h (by omega),by simp,fun i r hi=>by simp at hi,fun h=>absurd h (by omega),rfl,fun p hp=>(nomatch hp),fun _=>rfl⟩ ?_;unfold St.make dropL;simp only[aY,bJ,aV,jZ,bw]
  congr 1
  funext r
  simp only[eh];by_cases hr:r=S.ng
  ·subst hr; simp
  ·rw[if_neg (by omega),if_neg hr]
 |own hp hcap hk ha=>
  rename_i q s' lo' len ad cap;simp only[kj] at h;split at h
  ·rename_i hc;obtain⟨rfl,rfl,hql,hfz'⟩:=hc;simp only[aj] at h;obtain⟨rows0,hrows,h⟩:=h;split at h
   ·cases h
   ·rename_i hlen;simp only[ae,al] at h;obtain⟨rfl,rfl⟩:=h;have hlook:=gC hrows;have htl: (rows0.take len).length=len:=by simp; omega
    have hlr:rows0.length<=bt.κ q:=(hID.tr _ _ _ hlook).1
    obtain⟨olds,hol,holds,hcur⟩: ∃olds:List Value,olds.length=len*P.cellsOf el/\(∀ (i:Nat) (r:List T),(rows0.take len)[i]? =some r->r.length=P.cellsOf el/\ ∀ (j:Nat) (y:T),r[j]? =some y-> ∃c,olds[i*P.cellsOf el+j]? =some c/\GV bt (some q) i j y c)/\
      (0<cap-> ∃g cur e',ad=some ⟨g,0,none⟩/\w.heap[g]? =some (.cells cur e' (0,0))/\cap*P.cellsOf el<=cur.size/\(∀ (k:Nat) (u:Value),cur[k]? =some u->u.oneCell'=true)/\ ∀ (k:Nat) (u:Value),olds[k]? =some u->cur[k]? =some u):=by
     rcases bc cap with h0|h0
     ·have hl0:len=0:=by omega
      subst hl0;exact⟨[],by simp,fun i r hi=>by simp at hi,fun h=>absurd h (by omega)⟩
     ·obtain⟨olds,g1,g2,g3,g4⟩:=nV hID (lo:=0) (len:=len) hlook (by omega) (by omega);obtain⟨_,arr,e,k1,k2,k3,k4⟩:=(hID.tr _ _ _ hlook).2 (by omega);refine⟨olds,g1,fun i r hi=> ?_,fun _=>⟨bt.β q,arr,e,by rw[ha h0,cm],k1,bE (bG _ (by omega)) k2,k3,fun k u hk'=> ?_⟩⟩
      ·rw[bT] at g4;obtain⟨m1,m2⟩:=g4 i r hi;refine⟨m1,fun j y hy=> ?_⟩;obtain⟨c,m3,m4⟩:=m2 j y hy;rw[aV] at m4;exact⟨c,m3,m4⟩
      ·have:=g3 k u hk';rw[Go.Proofs.YtadpelkpdaohnaaGreatDoor.En.add_lit,jx k1,cm,aV] at this;exact this
    refine go (ab:=ad) (cap:=cap) (bp:=some q) (olds:=olds) (S1:= { dropL S L with gh:=eh (dropL S L).gh q.r none })
     ⟨by rw[htl],by rw[htl]; exact hcap,fun h0=>⟨q,rfl,by rw[ha h0,cm],by omega⟩,by rw[htl]; exact hol,holds,hcur,by simp[hql],fun p hp=>by cases hp;exact⟨hfz',rows0,hlook,by rw[htl]⟩,fun h=>by cases h⟩ ?_
    unfold St.make dropL;simp only[aY,bJ,aV,jZ]
    congr 1
    funext r
    simp only[eh];by_cases hr:r=S.ng
    ·subst hr; simp
    ·rw[if_neg (by omega),if_neg hr];by_cases hq:r=q.r
     ·subst hq; simp
     ·rw[if_neg hq]; simp[hq]
  ·cases h
 | _=>simp[kj] at h
theorem zK (hD:jN P D) (hI:eK w0 W bt S w) (hE:ER w bt S a) (hfz:S.fz<=S.ng) {o:Oper} (hok:kQ P o=true) {v:AV} {adds:List T} {cons:List Nat} (hs:fk D P S o=some (v,adds,cons)) {K:Act->World->Prop}
  (hK: ∀bt1 u w',fX w0 W bt S a bt1 (S.make ⟨S.ng,adds,cons⟩) w'->bt.le bt1->VR w' bt1 (shift S.ng v) u->K (a.put o.dst u) w'):o.wp P a w K Q:=by
 obtain⟨dst,op,type,pos,after,guard⟩:=o;cases op with
 |buildSlice t len parts=>
  simp only[fk,aj] at hs;obtain⟨el,hel,hs⟩:=hs;split at hs
  ·rename_i hc;obtain⟨h1,h2,h3,h4,h5⟩:=hc;simp only[aj,Prod.exists] at hs;obtain⟨rows,L,hp,hs⟩:=hs;split at hs
   ·rename_i hnd;simp only[ae,al] at hs;obtain⟨rfl,rfl,rfl⟩:=hs;obtain⟨u,w',bt',g1,g2,g3,g4⟩:=xW hI hE hfz hel h1 h2 h3 h4 h5 hp hnd;unfold Oper.wp;have hr: (execOp a.eval ⟨dst, .buildSlice t len parts,type,pos,after,guard⟩).run P w= .ok (.value u) w':=by simp[execOp,g1]
    rw[hr,Oper.upon_value];refine hK bt' u w' g2 g3 ?_;simp only[shift,jI,kN,aV];exact g4
   ·cases hs
  ·cases hs
 |call c=>
  obtain⟨cl,as,ts⟩:=c;cases cl with
  |invoke r m=>simp[fk] at hs
  |value f=>
   simp only[fk,aj,ak,al] at hs;obtain⟨⟨g,caps⟩,hc,⟨res,out⟩,hr,rfl,rfl,rfl⟩:=hs;simp only[kQ,beq_iff_eq] at hok;refine ux hD hI hE rfl hok hc hr (fun u w' btn hC hv=> ?_);obtain⟨bt',g1,g2,g3⟩:=qm hI hE hfz hC hv;refine hK bt' u w' ?_ g2 g3
   have e: (S.make ⟨S.ng,out,[]⟩)=(kv S (res,out)).2:=by
    unfold St.make kv;simp only
    congr 1
   rw[e];exact g1
  |builtin b=>
   cases b with
   |append=>
    simp only[fk] at hs;split at hs
    ·rename_i s x t t' e1 e2;have e1:as= #[s,x] :=by apply Array.ext'; simpa using e1
     have e2:ts= #[t,t'] :=by apply Array.ext'; simpa using e2
     subst e1 e2;split at hs
     ·rename_i htt;subst htt;simp only[aj] at hs;obtain⟨el,hel,⟨more,L⟩,h1,⟨rows,cs⟩,h2,hs⟩:=hs;simp only at h1 h2 hs;split at hs
      ·rename_i hc;obtain⟨k1,k2,k3,k4⟩:=hc;simp only[ae,al] at hs;obtain⟨rfl,rfl,rfl⟩:=hs;obtain⟨u,w',bt',g1,g2,g3,g4⟩:=we (ty:=type) hI hE hfz hel (ek hE s) (ek hE x) h1 h2 k1 k2 k3 k4;unfold Oper.wp;have hr: (execOp a.eval ⟨dst, .call { callee:= .builtin .append,args:= #[s,x],argTypes:= #[t,t] },type,pos,after,guard⟩).run P w= .ok (.value u) w':=by simp[execOp,resolve,invoke,builtin,g1]
       rw[hr,Oper.upon_value];refine hK bt' u w' g2 g3 ?_;simp only[shift,jI,kN,aV];exact g4
      ·cases hs
     ·cases hs
    ·cases hs
   | _=>simp[fk] at hs
 | _=>simp[fk] at hs
theorem VR.two {bt2:Bt} (hnb:bt2.nb=bt1.nb) (hbb:bt2.bb=bt1.bb) (hA:bt2.A=bt1.A) (hng:bt0.ng<=bt2.ng) (hp: ∀p:eb,p.r<bt0.ng->0<bt1.κ p->bt2.β p=bt1.β p/\bt2.κ p=bt1.κ p) {v:AV} {c0:Value} (h0:VR wa bt0 v c0): ∀ {c:Value},VR w' bt1 v c->VR w' bt2 v c:=by
 induction h0 with
 |sc h=>intro c h1; cases h1 with |sc h=>exact .sc h
 |em a=>intro c h1; cases h1 with |em a=>exact .em a
 |ro h=>intro c h1; cases h1 with |ro h=>exact .ro (by rw[hA]; exact h)
 |own q1 q2 q3 q4=>
  intro c h1;cases h1 with
  |own hp' hc hk ha=>
   rename_i p sz lo len _ _ ad cap;rcases bc (bt1.κ p) with h0|h0
   ·exact .own (aW q1 hng) hc (by omega) (fun h=>absurd h (by omega))
   ·obtain⟨e1,e2⟩:=hp p q1 h0;exact .own (aW q1 hng) hc (by rw[e2]; exact hk) (by rw[e1]; exact ha)
 |pro cs hs hb hr ht=>intro c h1; cases h1 with |pro cs hs hb hr ht=>exact .pro cs hs (by rw[hA]; exact hb) hr (fun j x hx=>by rw[hA]; exact ht j x hx)
 |ptrB j hn=>
  intro c h1;cases h1 with
  |ptrB j hn=>rw[<-hbb]; exact .ptrB j (by rw[hnb]; exact hn)
 |ptrT sz i j q1 q2=>
  intro c h1;cases h1 with
  |ptrT sz i j hp' hk=>rename_i p;obtain⟨e1,e2⟩:=hp p q1 (by omega);rw[<-e1];exact .ptrT sz i j (aW q1 hng) (by rw[e2]; exact hk)
 |fn f hl h ih=>
  intro c h1;rename_i caps us0;cases h1 with
  |fn f hl' h'=>
   rename_i us;refine .fn f hl' (fun k c u k1 k2=> ?_)
   have hk:k<us0.length:=by have:=(ai.1 k1).1;omega
   exact ih k c _ k1 (ah hk) (h' k c u k1 k2)
 |agg hl ho h ih=>
  intro c h1;rename_i cs us0;cases h1 with
  |agg hl' ho' h'=>
   refine .agg hl' ho' (fun k c u k1 k2=> ?_)
   have hk:k<us0.length:=by have:=(ai.1 k1).1;omega
   exact ih k c _ k1 (ah hk) (h' k c u k1 k2)
 |tup hl h ih=>
  intro c h1;rename_i cs us0;cases h1 with
  |tup hl' h'=>
   refine .tup hl' (fun k c u k1 k2=> ?_)
   have hk:k<us0.length:=by have:=(ai.1 k1).1;omega
   exact ih k c _ k1 (ah hk) (h' k c u k1 k2)
 |dead u=>intro c _; exact .dead c
def Bt.moved (bt:Bt) (N b k:Nat):Bt:= { bt with
 β:=fun p=>if b<=p.r/\p.r<b+k then bt.β ⟨N+(p.r-b),p.l⟩ else bt.β p
 κ:=fun p=>if b<=p.r/\p.r<b+k then bt.κ ⟨N+(p.r-b),p.l⟩ else bt.κ p
 ng:=N }
def St.moved (S:St) (N b k:Nat):St:= { S with gh:=fun r=>if b<=r/\r<b+k then S.gh (N+(r-b)) else if r<N then S.gh r else none,ng:=N }
theorem eK.moved (hI0:eK w0 W bt0 S0 wa) (hle:bt0.le bt1) (hI1:eK w0 W bt1 S1 w') {N b k:Nat} (hbx:S1.bx=S0.bx) (hN0:S0.ng=N) (hN1:S1.ng=N+k) (hb:b+k<=N) (hκ: ∀p:eb,b<=p.r->p.r<b+k->bt0.κ p=0):
  eK w0 W (bt1.moved N b k) (S1.moved N b k) w'/\ ∀ {v:AV} {c0 c:Value},VR wa bt0 v c0->VR w' bt1 v c->VR w' (bt1.moved N b k) v c:=by
 have hng0:bt0.ng=N:=hI0.ng.trans hN0
 have two: ∀ {v:AV} {c0 c:Value},VR wa bt0 v c0->VR w' bt1 v c->VR w' (bt1.moved N b k) v c:=by
  intro v c0 c h0 h1;refine VR.two (bt1:=bt1) (bt2:=bt1.moved N b k) rfl rfl rfl (by rw[hng0]; exact aw N) (fun p hp hk=> ?_) h0 h1
  have hn: ¬ (b<=p.r/\p.r<b+k):=fun h=>by have:=hle.κ p hp;rw[hκ p h.1 h.2] at this;omega
  simp only[Bt.moved];rw[if_neg hn,if_neg hn];exact⟨rfl,rfl⟩
 refine⟨?_,two⟩
 have look: ∀p s rs,(S1.moved N b k).look p= .sl s rs->p.r<N/\ ∃q:eb,q.l=p.l/\S1.look q= .sl s rs/\(bt1.moved N b k).β p=bt1.β q/\(bt1.moved N b k).κ p=bt1.κ q/\(∀i j,(bt1.moved N b k).β (p.sub i j)=bt1.β (q.sub i j)/\(bt1.moved N b k).κ (p.sub i j)=bt1.κ (q.sub i j))/\
   ((b<=p.r/\p.r<b+k/\q.r=N+(p.r-b))\/(¬ (b<=p.r/\p.r<b+k)/\q.r=p.r)):=by
  intro p s rs h;unfold St.look St.moved at h;simp only at h;by_cases hr:b<=p.r/\p.r<b+k
  ·rw[if_pos hr] at h;refine⟨by omega,⟨N+(p.r-b),p.l⟩,rfl,h,by simp only[Bt.moved]; rw[if_pos hr],by simp only[Bt.moved]; rw[if_pos hr],fun i j=>⟨?_,?_⟩, .inl ⟨hr.1,hr.2,rfl⟩⟩
   ·simp only[Bt.moved,eb.sub]; rw[if_pos hr]
   ·simp only[Bt.moved,eb.sub]; rw[if_pos hr]
  ·rw[if_neg hr] at h;by_cases hlt:p.r<N
   ·rw[if_pos hlt] at h;refine⟨hlt,p,rfl,h,by simp only[Bt.moved]; rw[if_neg hr],by simp only[Bt.moved]; rw[if_neg hr],fun i j=>⟨?_,?_⟩, .inr ⟨hr,rfl⟩⟩
    ·simp only[Bt.moved,eb.sub]; rw[if_neg hr]
    ·simp only[Bt.moved,eb.sub]; rw[if_neg hr]
   ·rw[if_neg hlt] at h; cases h
 exact { os:=hI1.os,tape:=hI1.tape,output:=hI1.output,size:=hI1.size,keep:=hI1.keep,nb:=hI1.nb,ng:=rfl
         bx:=fun n cells hn=>by
          obtain⟨h1,h2,cs,e,h3,h4,h5⟩:=hI1.bx n cells hn;refine⟨h1,h2,cs,e,h3,h4,fun j v hj=> ?_⟩;obtain⟨c,k1,k2,k3⟩:=h5 j v hj;have hn':S0.bx n=some cells:=by rw[<-hbx]; exact hn
          obtain⟨_,_,cs0,e0,m3,m4,m5⟩:=hI0.bx n cells hn';obtain⟨c0,q1,q2,q3⟩:=m5 j v hj;exact⟨c,k1,two q2 k2,k3⟩
         gh:=fun r t h=>by
          show r<N;have h': (if b<=r/\r<b+k then S1.gh (N+(r-b)) else if r<N then S1.gh r else none)=some t:=h;split at h'
          ·omega
          ·split at h'
           ·assumption
           ·cases h'
         tr:=fun p s rs h=>by
          obtain⟨_,q,_,hq,e1,e2,e3,_⟩:=look p s rs h;obtain⟨k1,k2⟩:=hI1.tr _ _ _ hq;rw[e1,e2];refine⟨k1,fun hk=>⟨(k2 hk).1,?_⟩⟩;obtain⟨_,cs,e,g1,g2,g3,g4⟩:=k2 hk;refine⟨cs,e,by rw[e1]; exact g1,by rw[e2]; exact g2,g3,fun i r hi=> ?_⟩;obtain⟨m1,m2⟩:=g4 i r hi;refine⟨m1,fun j x hj=> ?_⟩;obtain⟨c,m3,m4⟩:=m2 j x hj;refine⟨c,m3,?_⟩;cases m4 with
          |sc h=>exact .sc h
          |dd u=>exact .dd _
          |sl q1 q2 q3=>exact .sl q1 (by rw[(e3 i j).2]; exact q2) (by rw[(e3 i j).1]; exact q3)
         inj:=fun p q s rs s' rs' h h' hk hk' he=>by
          obtain⟨l1,p1,a1,b1,c1,d1,_,r1⟩:=look p s rs h;obtain⟨l2,p2,a2,b2,c2,d2,_,r2⟩:=look q s' rs' h';rw[d1] at hk;rw[d2] at hk';rw[c1,c2] at he;have:=hI1.inj _ _ _ _ _ _ b1 b2 hk hk' he;subst this;obtain⟨pr,pl⟩:=p;obtain⟨qr,ql⟩:=q;simp only at*;rw[<-a1,<-a2]
          congr 1
          rcases r1 with ⟨x1,x2,x3⟩| ⟨x1,x3⟩<;>rcases r2 with ⟨y1,y2,y3⟩| ⟨y1,y3⟩<;>omega
         bbinj:=hI1.bbinj
         bbtr:=fun n c p s rs h h' hk=>by obtain⟨_,q,_,hq,e1,e2,_,_⟩:=look p s rs h';rw[e2] at hk;rw[e1];exact hI1.bbtr _ _ _ _ _ h hq hk
         alt:=hI1.alt
         atr:=fun p s rs h hk=>by obtain⟨_,q,_,hq,e1,e2,_,_⟩:=look p s rs h;rw[e2] at hk;rw[e1];exact hI1.atr _ _ _ hq hk
         abb:=hI1.abb }
end
end
section
open Go Go.RowKit
section
variable {P:Program} {S SV:St} {D:mu}
def km (S S':St) (v:AV):Prop:= ∀r∈j9 v,S'.gh r=S.gh r
theorem jg {S S':St} {p:eb} {sz:Nat} (h:S'.gh p.r=S.gh p.r):S'.rows p sz=S.rows p sz:=by unfold St.rows St.look; rw[h]
theorem BE {g:Nat->Option T} {n:Nat} {t:TypeId} {v:AV} (h:km S { S with gh:=g,ng:=n } v):load P { S with gh:=g,ng:=n } t v=load P S t v:=by
 cases v with
 |ptrT p sz i j=>have:=jg (S:=S) (S':= { S with gh:=g,ng:=n }) (p:=p) (sz:=sz) (h p.r (by simp[j9]));simp only[load,ew,this]
 | _=>rfl
theorem BF {g:Nat->Option T} {n sz:Nat} {v:AV} (h:km S { S with gh:=g,ng:=n } v):T.ofAV { S with gh:=g,ng:=n } sz v=T.ofAV S sz v:=by
 cases v with
 |own p s lo len=>have:=jg (S:=S) (S':= { S with gh:=g,ng:=n }) (p:=p) (sz:=s) (h p.r (by simp[j9]));simp only[T.ofAV,this]
 | _=>rfl
theorem iW {p:Nat->Bool}: ∀ {cs:List AV} {c:AV},oS p cs=true->c∈cs->iA p c=true
 | [],_,_,h=>by cases h
 |d::cs,c,h,hm=>by
  unfold oS at h;simp only[ao] at h;rcases aR.1 hm with rfl|hm
  ·exact h.1
  ·exact iW h.2 hm
theorem uE {p:Nat->Bool}: ∀ {cs:List AV},(∀c∈cs,iA p c=true)->oS p cs=true
 | [],_=>rfl
 |c::cs,h=>by unfold oS;rw[h c aH,uE fun x hx=>h x (aE _ hx)];rfl
theorem l5 {q:Nat->Bool} {g:Nat->Option T} {n sz:Nat} {v:AV} (hp:iA q v=true) (h:km S { S with gh:=g,ng:=n } v) (hb: ∀k,q k=true-> ∀cs,S.bx k=some cs-> ∀c∈cs,km S { S with gh:=g,ng:=n } c):eV { S with gh:=g,ng:=n } sz v=eV S sz v:=by
 cases v with
 |own p s lo len=>have:=jg (S:=S) (S':= { S with gh:=g,ng:=n }) (p:=p) (sz:=s) (h p.r (by simp[j9]));simp only[eV,this]
 |ptrT p s i j=>have:=jg (S:=S) (S':= { S with gh:=g,ng:=n }) (p:=p) (sz:=s) (h p.r (by simp[j9]));simp only[eV,this]
 |ptrB b j=>
  simp only[eV];cases hbx:S.bx b with
  |none=>rfl
  |some cs=>
   simp only
   congr 1
   exact aG fun c hc=>BF (hb b hp cs hbx c (bX hc))
 | _=>rfl
theorem sq {v:AV} {cs:List AV} (hv:v= .agg cs\/ ∃f,v= .fn f cs) {S':St} (h:km S S' v): ∀c∈cs,(∀p s lo len,c= .own p s lo len->S'.gh p.r=S.gh p.r)/\(∀p s i j,c= .ptrT p s i j->S'.gh p.r=S.gh p.r):=by
 intro c hc;refine⟨fun p s lo len he=>h p.r ?_,fun p s i j he=>h p.r ?_⟩
 ·subst he;rcases hv with rfl| ⟨f,rfl⟩<;>(simp only[j9,cY]; exact⟨_,hc,by simp⟩)
 ·subst he;rcases hv with rfl| ⟨f,rfl⟩<;>(simp only[j9,cY]; exact⟨_,hc,by simp⟩)
theorem nF {q:Nat->Bool} {g:Nat->Option T} {n sz:Nat} {c:AV} (hp:iA q c=true) (h: (∀p s lo len,c= .own p s lo len->g p.r=S.gh p.r)/\(∀p s i j,c= .ptrT p s i j->g p.r=S.gh p.r)) (hb: ∀k,q k=true-> ∀cs,S.bx k=some cs-> ∀c∈cs,km S { S with gh:=g,ng:=n } c):eV { S with gh:=g,ng:=n } sz c=eV S sz c:=by
 cases c with
 |own p s lo len=>exact l5 hp (fun r hr=>by simp[j9] at hr; subst hr; exact h.1 p s lo len rfl) hb
 |ptrT p s i j=>exact l5 hp (fun r hr=>by simp[j9] at hr; subst hr; exact h.2 p s i j rfl) hb
 |ptrB b j=>exact l5 hp (fun r hr=>by simp[j9] at hr) hb
 | _=>rfl
theorem zL {q:Nat->Bool} {g:Nat->Option T} {n:Nat} {szs:List Nat} {v:AV} (hp:iA q v=true) (h:km S { S with gh:=g,ng:=n } v) (hb: ∀k,q k=true-> ∀cs,S.bx k=some cs-> ∀c∈cs,km S { S with gh:=g,ng:=n } c):ii { S with gh:=g,ng:=n } szs v=ii S szs v:=by
 cases v with
 |agg cs=>
  have hc:=sq (.inl rfl) h;simp only[ii];split
  ·congr 1
   apply bK;intro k;rw[bf,bf];cases hs:szs[k]? with
   |none=>rfl
   |some s=>
    cases hx:cs[k]? with
    |none=>rfl
    |some c=>simp only;rw[nF (iW hp (aq hx)) (hc c (aq hx)) hb]
  ·rfl
 |fn f caps=>
  have hc:=sq (.inr ⟨f,rfl⟩) h;simp only[ii]
  congr 1
  exact aG fun c hcm=>nF (iW hp hcm) (hc c hcm) hb
 |em=>rfl
 | _=>exact l5 (sz:=szs.headD 0) hp h hb
theorem nk (g:Nat->Option T) (n:Nat) (x:Operand):opd { S with gh:=g,ng:=n } x=opd S x:=by cases x<;>rfl
theorem BG (g:Nat->Option T) (n:Nat) (o:Oper):dZ P { S with gh:=g,ng:=n } o=dZ P S o:=by unfold dZ;simp only[nk]
theorem G0 (g:Nat->Option T) (n:Nat) (d:Int) (x:Option Operand):i6 { S with gh:=g,ng:=n } d x=i6 S d x:=by cases x<;>simp only[i6,nk]
theorem zM {g:Nat->Option T} {n:Nat} {o:Oper} (hn:ez o=false) (h: ∀x∈o.op.operands,km S { S with gh:=g,ng:=n } (opd S x)):dH D P { S with gh:=g,ng:=n } o=dH D P S o:=by
 have sc:=BG (P:=P) (S:=S) g n o;obtain⟨dst,op,type,pos,after,guard⟩:=o;cases op with
 |load t x=>simp only[dH,nk];exact BE (h x (by simp[Op.operands]))
 |makeFunc fn first caps=>
  cases fn with
  |func f=>have e:caps.toList.map (opd { S with gh:=g,ng:=n })=caps.toList.map (opd S):=aG fun x _=>nk g n x;simp only[dH];rw[e]
  | _=>simp only[dH]; exact sc
 |unOp op t x=>cases op<;>simp only[dH,nk,sc]
 |binOp op t x y t'=>cases op<;>simp only[dH,nk,sc]
 |slice t x lo hi mx=>cases mx<;>simp only[dH,nk,G0,sc]
 |call c=>
  obtain⟨cl,as,ts⟩:=c;have e:as.toList.map (opd { S with gh:=g,ng:=n })=as.toList.map (opd S):=aG fun x _=>nk g n x;cases cl with
  |builtin b=>cases b<;>first | (simp only[dH]; rw[e,sc]; done)| (simp only[dH,nk,sc]; done)| (simp only[dH]; exact sc)
  |value f=>simp[ez] at hn
  |invoke r m=>simp only[dH]; exact sc
 | _=>first | (simp only[dH,nk,sc]; done)| (simp only[dH]; exact sc)
theorem wg {g:Nat->Option T} {n sz:Nat} {fl:Bool} {v:AV} (h:km S { S with gh:=g,ng:=n } v):fL { S with gh:=g,ng:=n } sz fl v=fL S sz fl v:=by
 cases v with
 |own p s lo len=>have:=jg (S:=S) (S':= { S with gh:=g,ng:=n }) (p:=p) (sz:=sz) (h p.r (by simp[j9]));simp only[fL,this]
 | _=>rfl
theorem zN {g:Nat->Option T} {n sz:Nat} {L:List Nat} {v:AV} (h:km S { S with gh:=g,ng:=n } v):kj (dropL { S with gh:=g,ng:=n } L) sz v=kj (dropL S L) sz v:=by
 cases v with
 |own p s lo len=>
  have : (dropL { S with gh:=g,ng:=n } L).rows p sz=(dropL S L).rows p sz:=jg (by unfold dropL;have:=h p.r (by simp[j9]);simp only at this ⊢;rw[this])
  simp only[kj,this];rfl
 | _=>rfl
theorem uF {v c:AV} (hc:c∈v.cells) {q:Nat} (h: (∃p s lo len,c= .own p s lo len/\p.r=q)\/ ∃p s i j,c= .ptrT p s i j/\p.r=q):q∈j9 v:=by
 cases v with
 |agg cs=>simp only[AV.cells] at hc;simp only[j9];refine cY.2 ⟨c,hc,?_⟩;rcases h with ⟨p,s,lo,len,rfl,rfl⟩| ⟨p,s,i,j,rfl,rfl⟩<;>simp
 | _=>simp only[AV.cells,ay] at hc;subst hc;rcases h with ⟨p,s,lo,len,e,rfl⟩| ⟨p,s,i,j,e,rfl⟩<;>first | (cases e; simp[j9])|cases e
theorem xX {q:Nat->Bool} {f:Operand} {g:FuncId} {caps:List AV} (hc:callee S f=some (g,caps)) (h:iA q (opd S f)=true): ∀c∈caps,iA q c=true:=by
 unfold callee at hc;split at hc
 ·simp only[ae,al] at hc;obtain⟨_,rfl⟩:=hc;intro c hc;cases hc
 ·rename_i g' cs he;simp only[ae,al] at hc;obtain⟨rfl,rfl⟩:=hc;rw[he] at h;exact fun c hc=>iW h hc
 ·cases hc
theorem zO {f:Operand} {g:FuncId} {caps:List AV} (hc:callee S f=some (g,caps)) {S':St} (h:km S S' (opd S f)): ∀c∈caps,(∀p s lo len,c= .own p s lo len->S'.gh p.r=S.gh p.r)/\(∀p s i j,c= .ptrT p s i j->S'.gh p.r=S.gh p.r):=by
 unfold callee at hc;split at hc
 ·simp only[ae,al] at hc;obtain⟨_,rfl⟩:=hc;intro c hc;cases hc
 ·rename_i g' cs he;simp only[ae,al] at hc;obtain⟨rfl,rfl⟩:=hc;exact sq (.inr ⟨g',he⟩) h
 ·cases hc
theorem xY {sz:Nat} {fl:Bool} {v:AV} {rows:List (List T)} {L:List Nat} (h:fL S sz fl v=some (rows,L)): ∀r∈L,r∈j9 v:=by
 unfold fL at h;split at h
 ·simp only[ae,al] at h;obtain⟨_,rfl⟩:=h;intro r hr;cases hr
 ·split at h
  ·simp only[ae,al] at h;obtain⟨_,rfl⟩:=h;intro r hr;cases hr
  ·cases h
 ·split at h
  ·simp only[aj] at h;obtain⟨rs,_,h⟩:=h;split at h
   ·simp only[ae,al] at h;obtain⟨_,rfl⟩:=h;intro r hr;simpa [j9] using hr
   ·split at h
    ·simp only[ae,al] at h;obtain⟨_,rfl⟩:=h;intro r hr;cases hr
    ·cases h
  ·cases h
 ·cases h
theorem BH {sz:Nat} {v:AV} {rows:List (List T)} {cons:List Nat} (h:kj S sz v=some (rows,cons)): ∀r∈cons,r∈j9 v:=by
 unfold kj at h;split at h
 ·simp only[ae,al] at h;obtain⟨_,rfl⟩:=h;intro r hr;cases hr
 ·split at h
  ·simp only[aj] at h;obtain⟨rs,_,h⟩:=h;split at h
   ·cases h
   ·simp only[ae,al] at h;obtain⟨_,rfl⟩:=h;intro r hr;simpa [j9] using hr
  ·cases h
 ·cases h
theorem DL {g:Nat->Option T} {n:Nat} {ss:List Nat} {l:List (Nat×Operand)} (h: ∀x∈l,km S { S with gh:=g,ng:=n } (opd S x.2)):fE { S with gh:=g,ng:=n } ss (l.map fun x=>(opd S x.2).cells)=fE S ss (l.map fun x=>(opd S x.2).cells):=by
 have fG: ∀ (v:AV),km S { S with gh:=g,ng:=n } v-> ∀ss,gl { S with gh:=g,ng:=n } ss v.cells=gl S ss v.cells:=by
  intro v hv ss
  have one: ∀c∈v.cells,∀s,jc { S with gh:=g,ng:=n } s c=jc S s c:=by
   intro c hc s;unfold jc;cases c with
   |own q s' lo len=>have:=jg (S:=S) (S':= { S with gh:=g,ng:=n }) (p:=q) (sz:=s') (hv q.r (uF hc (.inl ⟨q,s',lo,len,rfl,rfl⟩)));simp only[this]
   | _=>rfl
  generalize v.cells=vs at one
  induction vs generalizing ss with
  |nil=>cases ss<;>rfl
  |cons c vs ih=>
   cases ss with
   |nil=>rfl
   |cons s ss=>unfold gl;rw[one c aH,ih ss (fun d hd=>one d (aE _ hd))]
 induction l with
 |nil=>rfl
 |cons x l ih=>simp only[aP,fE];rw[fG _ (h x aH),ih (fun y hy=>h y (aE _ hy))]
theorem zP {q:Nat->Bool} {g:Nat->Option T} {n:Nat} {o:Oper} (hp:kO o=true-> ∀x∈o.op.operands,iA q (opd S x)=true) (h: ∀x∈o.op.operands,km S { S with gh:=g,ng:=n } (opd S x)) (hb: ∀k,q k=true-> ∀cs,S.bx k=some cs-> ∀c∈cs,km S { S with gh:=g,ng:=n } c):fk D P { S with gh:=g,ng:=n } o=fk D P S o:=by
 obtain⟨dst,op,type,pos,after,guard⟩:=o;cases op with
 |buildSlice t len parts=>
  have hp: ∀ss,fE { S with gh:=g,ng:=n } ss (parts.toList.map fun x=>(opd S x.2).cells)=fE S ss (parts.toList.map fun x=>(opd S x.2).cells):=fun ss=>DL (fun x hx=>h x.2 (by simp only[Op.operands,cX];exact aL.2 ⟨x,hx,rfl⟩))
  simp only[fk,nk,hp]
 |call c=>
  obtain⟨cl,as,ts⟩:=c;cases cl with
  |invoke r m=>rfl
  |value f=>
   simp only[fk];have hc:callee { S with gh:=g,ng:=n } f=callee S f:=by unfold callee; rw[nk]
   rw[hc];cases hcs:callee S f with
   |none=>rfl
   |some x=>
    obtain⟨g',caps⟩:=x;simp only[af]
    have ha:args P { S with gh:=g,ng:=n } ts as caps=args P S ts as caps:=by
     unfold args
     congr 1
     ·apply bK;intro k;rw[bf,bf];cases ht:ts.toList[k]? with
      |none=>rfl
      |some t=>
       cases hx:as.toList[k]? with
       |none=>rfl
       |some x=>simp only;rw[nk,zL (hp rfl x (by simp[Op.operands,Call.operands]; right; simpa using aq hx)) (h x (by simp[Op.operands,Call.operands]; right; simpa using aq hx)) hb]
     ·refine aG fun c hcm=> ?_;exact nF (sz:=0) (xX hcs (hp rfl f (by simp[Op.operands,Call.operands])) c hcm) (zO hcs (h f (by simp[Op.operands,Call.operands])) c hcm) hb
    rw[ha]
  |builtin b=>
   cases b with
   |append=>
    simp only[fk];split
    ·rename_i s x t t' e1 e2;have e1:as= #[s,x] :=by apply Array.ext'; simpa using e1
     subst e1;simp only[nk];have e3: ∀sz fl,fL { S with gh:=g,ng:=n } sz fl (opd S x)=fL S sz fl (opd S x):=fun sz fl=>wg (h x (by simp[Op.operands,Call.operands]));have e4: ∀L sz,kj (dropL { S with gh:=g,ng:=n } L) sz (opd S s)=kj (dropL S L) sz (opd S s):=fun L sz=>zN (h s (by simp[Op.operands,Call.operands]));simp only[e3,e4]
    ·rfl
   | _=>rfl
 | _=>rfl
theorem BI {o:Oper} {v:AV} {adds:List T} {cons:List Nat} (h:fk D P S o=some (v,adds,cons)): ∀r∈cons,∃x∈o.op.operands,r∈j9 (opd S x):=by
 obtain⟨dst,op,type,pos,after,guard⟩:=o;cases op with
 |buildSlice t len parts=>
  simp only[fk,aj] at h;obtain⟨el,_,h⟩:=h;split at h
  ·simp only[aj,Prod.exists] at h;obtain⟨rows,L,hp,h⟩:=h;split at h
   ·simp only[ae,al] at h;obtain⟨_,_,rfl⟩:=h;intro r hr;obtain⟨_,vs,hvs,v,hv,s,len',rfl⟩:=pd hp r (qI.1 hr);obtain⟨y,hy,rfl⟩:=aL.1 hvs;refine⟨y.2,?_,uF hv (.inl ⟨_,_,_,_,rfl,rfl⟩)⟩;simp only[Op.operands,cX];exact aL.2 ⟨y,hy,rfl⟩
   ·cases h
  ·cases h
 |call c=>
  obtain⟨cl,as,ts⟩:=c;cases cl with
  |invoke r m=>simp[fk] at h
  |value f=>simp only[fk,aj,ak,al] at h;obtain⟨_,_,_,_,_,_,rfl⟩:=h;intro r hr;cases hr
  |builtin b=>
   cases b with
   |append=>
    simp only[fk] at h;split at h
    ·rename_i s x t t' e1 e2;have e1:as= #[s,x] :=by apply Array.ext'; simpa using e1
     subst e1;split at h
     ·simp only[aj] at h;obtain⟨el,_,⟨more,L⟩,h1,⟨rows,cs⟩,h2,h⟩:=h;simp only at h h1 h2;split at h
      ·simp only[ae,al] at h;obtain⟨_,_,rfl⟩:=h;intro r hr;rcases bz.1 (qI.1 hr) with hr|hr
       ·exact⟨x,by simp[Op.operands,Call.operands],xY h1 r hr⟩
       ·exact⟨s,by simp[Op.operands,Call.operands],BH h2 r hr⟩
      ·cases h
     ·cases h
    ·cases h
   | _=>simp[fk] at h
 | _=>simp[fk] at h
end
end
end Go.Proofs.YtadpelkpdaohnaaGreatDoor.En
