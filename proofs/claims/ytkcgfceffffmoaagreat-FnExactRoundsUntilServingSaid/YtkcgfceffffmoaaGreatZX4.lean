import Derived.Test.YtkcgfceffffmoaaGreatZX3
namespace Go.Proofs.YtkcgfceffffmoaaGreat.En
section
open Go Go.RowKit
section
variable {P:Program} {w0 w w':World} {W:Nat->Prop} {btI bt bt':Bt} {SI S S' SV:St} {a a':Act} {D:GA} {Q:Exit->Act->World->Prop} {ops:Array Oper}
theorem adh {o:Oper} {v:AV} (hI:kr w0 W bt S w) (hE:ER w bt S a) (hok:FW P o=true) (hf:OT o=false) (h:eI D P S o=some v): ∃ u,(execOp a.eval o).run P w= .ok (.value u) w/\VR w bt v u:=by
 by_cases hp:C8 o=true
 ·exact agJ hI hE hok hp h
 ·obtain⟨dst,op,type,pos,after,guard⟩:=o
  have sc: (∀ cs b,op≠ .select cs b)->gD P S ⟨dst,op,type,pos,after,guard⟩=some v-> ∃ u,(execOp a.eval ⟨dst,op,type,pos,after,guard⟩).run P w= .ok (.value u) w/\VR w bt v u:=
   fun hs h=>FR hE (fun cs b=>hs cs b) h
  cases op with
  | call c=>
    obtain⟨cl,as,ts⟩:=c;cases cl with
    | value f=>simp [OT] at hf
    | invoke r m=>exact sc (by simp) (by simpa [eI] using h)
    | builtin b=>
      cases b with
      | len=>simp [C8] at hp
      | cap=>simp [C8] at hp
      | max=>simp [C8] at hp
      | min=>simp [C8] at hp
      | _=>exact sc (by simp) (by simpa [eI] using h)
  | select cs b=>simp [FW] at hok
  | _=>simp [C8] at hp
def done (ops:Array Oper) (L:Array Bool) (t:Nat):Bool:=(List.range ops.size).any fun i=>L.getD i false&&(((ops[i]?).bind (·.dst))==some t)
def ph (ops:Array Oper) (S SV:St) (L:Array Bool) (t:Nat):AV:=if done ops L t then SV.env t else S.env t
theorem BD {L:Array Bool} {t:Nat}:done ops L t=true↔ ∃ i o,ops[i]? =some o/\L.getD i false=true/\o.dst=some t:=by
 unfold done;simp only [cf,bO,ax,beq_iff_eq];constructor
 ·rintro⟨i,hi,h1,h2⟩
  rw [bH hi] at h2;exact⟨i,ops[i],bH hi,h1,h2⟩
 ·rintro⟨i,o,h1,h2,h3⟩
  exact⟨i,(aU.1 h1).1,h2,by rw [h1]; exact h3⟩
theorem Qx {L:Array Bool} {i j:Nat} (hi:i < L.size): (L.setIfInBounds i true).getD j false=if j=i then true else L.getD j false:=by
 simp only [bz,Array.getElem?_setIfInBounds];by_cases h:i=j
 ·subst h;simp [hi]
 ·rw [if_neg h,if_neg (fun e=>h e.symm)]
theorem K3 {L:Array Bool} {i:Nat} {o:Oper} (hi:i < L.size) (ho:ops[i]? =some o) (t:Nat):ph ops S SV (L.setIfInBounds i true) t=if o.dst=some t then SV.env t else ph ops S SV L t:=by
 unfold ph;by_cases hd:o.dst=some t
 ·rw [if_pos hd,if_pos];exact BD.2 ⟨i,o,ho,by rw [Qx hi,if_pos rfl],hd⟩
 ·rw [if_neg hd]
  have :done ops (L.setIfInBounds i true) t=done ops L t:=by
   rw [cb,BD,BD];constructor
   ·rintro⟨j,oj,h1,h2,h3⟩
    rw [Qx hi] at h2;split at h2
    ·rename_i he;subst he;rw [ho] at h1;simp only [af] at h1;exact absurd (h1 ▸ h3) hd
    ·exact⟨j,oj,h1,h2,h3⟩
   ·rintro⟨j,oj,h1,h2,h3⟩
    refine⟨j,oj,h1,?_,h3⟩;rw [Qx hi];split
    ·rfl
    ·exact h2
  rw [this]
theorem Lv.drawn (h:Lv w0 W btI SI bt S a w) (n:Nat):Lv w0 W btI SI bt S a { w with drawn:=n } :=
 ⟨h.inv.change ⟨rfl,rfl,rfl,aE _,fun _ _=> .inl rfl⟩,⟨h.er.1,fun t=>(h.er.2 t).mono (Bt.le.refl _) (fun _ _=>rfl)⟩,h.defers,h.fz,h.fzng,h.keep,h.gone⟩
def sG (ms:List p6) (L:Array Bool) (r:Nat):Bool:=(List.range ms.length).any fun j=>L.getD j false&&((ms[j]?).map fun m=>m.cons.contains r).getD false
def Wk (S:St) (ms:List p6) (L:Array Bool) (r:Nat):Option T:=if r < S.ng then (if sG ms L r then none else S.gh r) else match D4 ms r with
 | some c=>if L.getD c false&& !sG ms L r then (ms[c]?).bind fun m=>m.adds[r - m.b]? else none
 | none=>none
theorem rc {ms:List p6} {L:Array Bool} {r:Nat}:sG ms L r=true↔ ∃ j m,ms[j]? =some m/\L.getD j false=true/\r∈m.cons:=by
 unfold sG;simp only [cf,bO,ax];constructor
 ·rintro⟨j,hj,h1,h2⟩
  rw [ai hj] at h2;exact⟨j,ms[j],ai hj,h1,by simpa using h2⟩
 ·rintro⟨j,m,h1,h2,h3⟩
  exact⟨j,(aj.1 h1).1,h2,by rw [h1]; simpa using h3⟩
theorem OY {ms:List p6} {r j:Nat} {m:p6} (h1:ms[j]? =some m) (h2:r∈m.cons):j∈Ho ms r:=by
 unfold Ho;rw [cr,bO];exact⟨(aj.1 h1).1,by rw [h1]; simpa using h2⟩
theorem alP {ms:List p6} {r j:Nat} (h:j∈Ho ms r): ∃ m,ms[j]? =some m/\r∈m.cons:=by
 unfold Ho at h;rw [cr,bO] at h;obtain⟨h1,h2⟩:=h;rw [ai h1] at h2;exact⟨ms[j],ai h1,by simpa using h2⟩
theorem qE {ms:List p6} (hd: ∀ (k j:Nat) (m m':p6),ms[k]? =some m->j < k->ms[j]? =some m'->m'.b+m'.adds.length<=m.b) {r c:Nat}:D4 ms r=some c↔ ∃ m,ms[c]? =some m/\m.b<=r/\r < m.b+m.adds.length:=by
 unfold D4;rw [List.findIdx?_eq_some_iff_getElem];constructor
 ·rintro⟨hc,h1,h2⟩
  simp only [ax,decide_eq_true_eq] at h1;exact⟨ms[c],ai hc,h1.1,h1.2⟩
 ·rintro⟨m,h1,h2,h3⟩
  obtain⟨hc,hm⟩:=aj.1 h1;refine⟨hc,by simp [hm,h2,h3],fun j hj=> ?_⟩;have:=hd c j m _ h1 hj (ai (by omega));simp;intro h4;omega
theorem ang {S:St} {ms:List p6} (hgh: ∀ r t,S.gh r=some t->r < S.ng) (hb: ∀ (k:Nat) (m:p6),ms[k]? =some m->S.ng<=m.b) (hd: ∀ (k j:Nat) (m m':p6),ms[k]? =some m->j < k->ms[j]? =some m'->m'.b+m'.adds.length<=m.b): ∀ (k:Nat),k<=ms.length-> ∀ r,
  (r < S.ng->((∀ j m,ms[j]? =some m->j < k->r∉m.cons)->K2 S.gh (ms.take k) r=S.gh r)/\ ∀ j m,ms[j]? =some m->j < k->r∈m.cons->K2 S.gh (ms.take k) r=none)/\(S.ng<=r->D4 ms r=none->K2 S.gh (ms.take k) r=none)/\
  ∀ c,S.ng<=r->D4 ms r=some c->(k<=c->K2 S.gh (ms.take k) r=none)/\(c < k->(∀ j m,ms[j]? =some m->c < j->j < k->r∉m.cons)->K2 S.gh (ms.take k) r=(ms[c]?).bind fun m=>m.adds[r - m.b]?)/\
    (∀ j m,ms[j]? =some m->c < j->j < k->r∈m.cons->K2 S.gh (ms.take k) r=none):=by
 intro k
 induction k with
 | zero=>
   intro _ r
   have h0:S.ng<=r->S.gh r=none:=fun h=>by
    cases hx:S.gh r with
    | none=>rfl
    | some t=>have:=hgh r t hx; omega
   exact⟨fun _=>⟨fun _=>rfl,fun j m _ hj=>by omega⟩,fun h _=>h0 h,fun c h _=>⟨fun _=>h0 h,fun hc=>by omega,fun j m _ _ hj=>by omega⟩⟩
 | succ k ih=>
   intro hk r;obtain⟨i1,i2,i3⟩:=ih (by omega) r;have hkm:ms[k]? =some (ms[k]'(by omega)):=ai _
   have pO:K2 S.gh (ms.take (k+1))=mk1 (K2 S.gh (ms.take k)) (ms[k]'(by omega)):=by
    have app: ∀ (l:List p6) (g:Nat->Option T) (m:p6),K2 g (l++ [m])=mk1 (K2 g l) m:=by
     intro l
     induction l with
     | nil=>intro g m; rfl
     | cons x l ih=>intro g m; exact ih _ m
    rw [List.take_succ_eq_append_getElem (by omega),app]
   generalize hm:ms[k]'(by omega)=m at*;rw [pO];unfold mk1;refine⟨fun h=>⟨fun hno=> ?_,fun j m' hj h1 h3=> ?_⟩,fun h hn=> ?_,fun c h hmk=>⟨fun hkc=> ?_,fun hck hno=> ?_,fun j m' hj h1 h2 h3=> ?_⟩⟩
   ·have:=hb k m hkm;rw [if_neg (by omega),if_neg,(i1 h).1 (fun j m' hj h1=>hno j m' hj (by omega))];intro hcon;exact hno k m hkm (by omega) (by simpa using hcon)
   ·have:=hb k m hkm;rw [if_neg (by omega)];by_cases hjk:j=k
    ·subst hjk;rw [hkm] at hj;simp only [af] at hj;subst hj;rw [if_pos (by simpa using h3)]
    ·split
     ·rfl
     ·exact (i1 h).2 j m' hj (by omega) h3
   ·rw [if_neg]
    ·split
     ·rfl
     ·exact i2 h hn
    ·intro hr;rw [(qE hd).2 ⟨m,hkm,hr⟩] at hn;cases hn
   ·rw [if_neg]
    ·split
     ·rfl
     ·exact (i3 c h hmk).1 (by omega)
    ·intro hr;rw [(qE hd).2 ⟨m,hkm,hr⟩] at hmk;simp only [af] at hmk;omega
   ·by_cases hkc:k=c
    ·subst hkc;obtain⟨m',q1,q2⟩:=(qE hd).1 hmk;rw [hkm] at q1;simp only [af] at q1;subst q1;rw [if_pos q2,hkm];rfl
    ·rw [if_neg]
     ·rw [if_neg]
      ·exact (i3 c h hmk).2.1 (by omega) (fun j m' hj h1 h2=>hno j m' hj h1 (by omega))
      ·intro hcon;exact hno k m hkm (by omega) (by omega) (by simpa using hcon)
     ·intro hr;rw [(qE hd).2 ⟨m,hkm,hr⟩] at hmk;simp only [af] at hmk;omega
   ·rw [if_neg]
    ·by_cases hjk:j=k
     ·subst hjk;rw [hkm] at hj;simp only [af] at hj;subst hj;rw [if_pos (by simpa using h3)]
     ·split
      ·rfl
      ·exact (i3 c h hmk).2.2 j m' hj h1 (by omega) h3
    ·intro hr;rw [(qE hd).2 ⟨m,hkm,hr⟩] at hmk;simp only [af] at hmk;omega
theorem apr {v:AV} {u:Value} (h:VR w bt v u): ∀ r∈AJ v,r < bt.ng:=by
 have one: ∀ {c:AV} {u:Value},VR w bt c u->(∀ p s lo len,c= .own p s lo len->p.r < bt.ng)/\(∀ p s i j,c= .ptrT p s i j->p.r < bt.ng):=by
  intro c u h;refine⟨fun p s lo len he=> ?_,fun p s i j he=> ?_⟩
  ·subst he; cases h with | own hp _ _ _=>exact hp
  ·subst he; cases h with | ptrT _ _ _ hp _=>exact hp
 have cells: ∀ {cs:List AV} {us:List Value},us.length=cs.length->(∀ (k:Nat) (c:AV) (u:Value),cs[k]? =some c->us[k]? =some u->VR w bt c u)-> ∀ r,r∈cs.flatMap (fun | .own p _ _ _=> [p.r] | .ptrT p _ _ _=> [p.r] | .agg _=> [] | .fn _ _=> [] | .tup _=> [] | _=> [])->r < bt.ng:=by
  intro cs us hl hr r hm;obtain⟨c,hc,hrc⟩:=df.1 hm;obtain⟨k,hk,hkc⟩:=aM hc;have:=one (hr k c _ (by rw [<-hkc]; exact ai hk) (ai (by omega)));cases c with
  | own p s lo len=>simp at hrc; subst hrc; exact this.1 p s lo len rfl
  | ptrT p s i j=>simp at hrc; subst hrc; exact this.2 p s i j rfl
  | _=>simp at hrc
 intro r hr;cases h with
 | own hp _ _ _=>simp [AJ] at hr; subst hr; exact hp
 | ptrT _ _ _ hp _=>simp [AJ] at hr; subst hr; exact hp
 | agg hl ho h=>exact cells hl h r hr
 | fn f hl h=>exact cells hl h r hr
 | _=>simp [AJ] at hr
theorem Yq {env:Nat->AV} {bx:Nat->Option (List AV)}: ∀ (ss:List Nat) (vs:List AV),pZ { S with env:=env,bx:=bx } ss vs=pZ S ss vs
 | s::ss,v::vs=>by
   have e:wE { S with env:=env,bx:=bx } s v=wE S s v:=by unfold wE; cases v <;> rfl
   unfold pZ;rw [e,Yq ss vs]
 | [],[] =>rfl
 | [],_::_=>rfl
 | _::_,[] =>rfl
theorem OZ {env:Nat->AV} {bx:Nat->Option (List AV)} (ss:List Nat): ∀ (vss:List (List AV)),nB { S with env:=env,bx:=bx } ss vss=nB S ss vss
 | [] =>rfl
 | vs::vss=>by
   unfold nB;rw [Yq,OZ ss vss]
theorem ajf {env:Nat->AV} (ss:List Nat) (vss:List (List AV)):nB { S with env:=env } ss vss=nB S ss vss:=OZ (bx:=S.bx) ss vss
theorem agW {o:Oper} {env:Nat->AV} (h: ∀ x∈o.op.operands,opd { S with env:=env } x=opd S x):mp D P { S with env:=env } o=mp D P S o:=by
 obtain⟨dst,op,type,pos,after,guard⟩:=o;cases op with
 | buildSlice t len parts=>
   have hp: ∀ x∈parts.toList,opd { S with env:=env } x.2=opd S x.2:=fun x hx=>h x.2 (by simp only [Op.operands,dB]; exact aQ.2 ⟨x,hx,rfl⟩);have e1:parts.toList.map (fun x=>(opd { S with env:=env } x.2).cells)=parts.toList.map (fun x=>(opd S x.2).cells):=aO fun x hx=>by rw [hp x hx]
   have e3: ∀ ss vss,nB { S with env:=env } ss vss=nB S ss vss:=ajf
   have e2: ∀ n,parts.toList.all (fun x=>(opd { S with env:=env } x.2).cells.length=n&& !(opd { S with env:=env } x.2).isDead)=parts.toList.all (fun x=>(opd S x.2).cells.length=n&& !(opd S x.2).isDead):=by
    intro n;rw [cb,aG,aG];constructor
    ·intro g x hx; rw [<-hp x hx]; exact g x hx
    ·intro g x hx; rw [hp x hx]; exact g x hx
   simp only [mp,e1,e2,e3]
 | call c=>
   obtain⟨cl,as,ts⟩:=c;cases cl with
   | invoke r m=>rfl
   | value f=>
     simp only [mp];rw [Qv (h f (by simp [Op.operands,Call.operands]))]
     congr 1
     funext x
     obtain⟨g,caps⟩:=x;simp only;rw [Yl caps (fun x hx=>h x (by simp [Op.operands,Call.operands,hx]))]
   | builtin b=>
     cases b with
     | append=>
       simp only [mp];split
       ·rename_i s x t t' e1 e2;have e1:as= #[s,x] :=by apply Array.ext'; simpa using e1
        subst e1;rw [h x (by simp [Op.operands,Call.operands]),h s (by simp [Op.operands,Call.operands])];have e3: ∀ sz fl v,nY { S with env:=env } sz fl v=nY S sz fl v:=fun sz fl v=>by cases v <;> rfl
        have e4: ∀ L sz v,Bf (dropL { S with env:=env } L) sz v=Bf (dropL S L) sz v:=fun L sz v=>by cases v <;> rfl
        simp only [e3,e4]
       ·rfl
     | _=>rfl
 | _=>rfl
def Bt.widen (bt:Bt) (n N:Nat):Bt:= { bt with κ:=fun p=>if p.r < n then bt.κ p else 0,ng:=N }
theorem Lv.widen (h:Lv w0 W btI SI bt S a w) {N:Nat} (hN:S.ng<=N):Lv w0 W btI SI (bt.widen S.ng N) { S with ng:=N } a w:=by
 have hng:=h.inv.ng;have hle:bt.le (bt.widen S.ng N):=⟨aE _,by show bt.ng<=N; omega,fun _ h=>h,fun _ _=>rfl,fun p hp=>by simp only [Bt.widen]; rw [if_pos (by omega)],fun _ _=>rfl⟩
 have lk: ∀ p s rs,({ S with ng:=N }:St).look p= .sl s rs->S.look p= .sl s rs/\p.r < bt.ng:=fun p s rs hp=>⟨hp,h.inv.look_lt (S:=S) hp⟩
 have eκ: ∀ p:gt,p.r < bt.ng->(bt.widen S.ng N).κ p=bt.κ p:=fun p hp=>hle.κ p hp
 exact⟨{ os:=h.inv.os,tape:=h.inv.tape,output:=h.inv.output,size:=h.inv.size,keep:=h.inv.keep,nb:=h.inv.nb,ng:=rfl
         bx:=fun n cells hn=>by
          obtain⟨h1,h2,h3⟩:=h.inv.bx n cells hn;exact⟨h1,h2,h3.mono hle (by rw [h.inv.nb]; exact h1) (fun _ _=>rfl) rfl⟩
         gh:=fun r t hr=>bh (h.inv.gh r t hr) hN
         tr:=fun p s rs hp=>by
          obtain⟨h0,hlt⟩:=lk p s rs hp;obtain⟨h1,h2⟩:=h.inv.tr p s rs h0;rw [eκ p hlt];exact⟨h1,fun hk=>⟨(h2 hk).1,(h2 hk).2.mono hle hlt rfl⟩⟩
         inj:=fun p q s rs s' rs' h1 h2 hk hk' he=>by
          obtain⟨a1,a2⟩:=lk p s rs h1;obtain⟨b1,b2⟩:=lk q s' rs' h2;rw [eκ p a2] at hk;rw [eκ q b2] at hk';exact h.inv.inj _ _ _ _ _ _ a1 b1 hk hk' he
         bbinj:=h.inv.bbinj
         bbtr:=fun n c p s rs h1 h2 hk=>by
          obtain⟨a1,a2⟩:=lk p s rs h2;rw [eκ p a2] at hk;exact h.inv.bbtr _ _ _ _ _ h1 a1 hk
         alt:=h.inv.alt
         atr:=fun p s rs h1 hk=>by
          obtain⟨a1,a2⟩:=lk p s rs h1;rw [eκ p a2] at hk;exact h.inv.atr _ _ _ a1 hk
         abb:=h.inv.abb },⟨h.er.1,fun t=>(h.er.2 t).mono hle (fun _ _=>rfl)⟩,h.defers,h.fz,bL h.fzng hN,fun p hp=>⟨(h.keep p hp).1,by rw [eκ p (by have:=h.fz; have:=h.fzng; omega)]; exact (h.keep p hp).2⟩,h.gone⟩
end
end
section
open Go Go.RowKit
section
variable {P:Program} {S S' X Y Z:St} {D:GA}
theorem GC (env:Nat->AV) (n:Nat) (a:AV):jh { S with env:=env } n a=jh S n a:=by cases a <;> rfl
theorem ajg (h: ∀ x,opd X x=opd Z x) (o:Oper):gD P X o=gD P Z o:=by
 unfold gD;have :opd X=opd Z:=funext h;rw [this]
theorem aps (h: ∀ x,opd X x=opd Z x) (d:Int) (x:Option Operand):vX X d x=vX Z d x:=by cases x <;> simp only [vX,h]
theorem alQ (h: ∀ x,opd X x=opd Z x) {o:Oper} (hn:sy o=false) (hl: ∀ t a,o.op= .load t a->jh X (P.cellsOf t) (opd Z a)=jh Z (P.cellsOf t) (opd Z a)):eI D P X o=eI D P Z o:=by
 have sc:=ajg (P:=P) h o;have hf:opd X=opd Z:=funext h;obtain⟨dst,op,type,pos,after,guard⟩:=o;cases op with
 | load t x=>
   simp only [eI,load];rw [hf,hl t x rfl]
 | makeFunc fn first caps=>
   cases fn with
   | func f=>simp only [eI]; rw [hf]
   | _=>simp only [eI]; exact sc
 | unOp op t x=>cases op <;> simp only [eI,hf,sc]
 | binOp op t x y t'=>cases op <;> simp only [eI,hf,sc]
 | slice t x lo hi mx=>cases mx <;> simp only [eI,hf,aps h,sc]
 | call c=>
   obtain⟨cl,as,ts⟩:=c;cases cl with
   | builtin b=>cases b <;> first | (simp only [eI]; rw [hf,sc]; done) | (simp only [eI,sc]; done) | (simp only [eI]; exact sc)
   | value f=>simp [sy] at hn
   | invoke r m=>simp only [eI]; exact sc
 | _=>first | (simp only [eI,hf,sc]; done) | (simp only [eI]; exact sc)
theorem Yr {o:Oper} (hok:FW P o=true) (hn:sy o=false) (hop: ∀ x∈o.op.operands,opd X x=opd Y x) (hl: ∀ t a,o.op= .load t a->jh X (P.cellsOf t) (opd Y a)=jh Y (P.cellsOf t) (opd Y a)):eI D P X o=eI D P Y o:=by
 have e1:eI D P { Y with env:=X.env } o=eI D P Y o:=agN hok (fun x hx=>by
  rw [<-hop x hx];cases x <;> rfl)
 rw [<-e1];refine alQ (fun x=>by cases x <;> rfl) hn (fun t a hta=> ?_);have e2:opd { Y with env:=X.env } a=opd X a:=by cases a <;> rfl
 have e3:=hop a (by rw [hta]; simp [Op.operands]);rw [e2,e3,hl t a hta];exact (GC X.env _ _).symm
theorem abl {g:Nat->Option T} {m n:Nat} {v:AV} (h:Bg S { S with gh:=g,ng:=m } v):jh { S with gh:=g,ng:=m } n v=jh S n v:=by
 cases v with
 | ptrT p sz i j=>
   have:=wI (p:=p) (sz:=sz) (h p.r (by simp [AJ]));simp only [jh];rw [this]
 | _=>rfl
theorem K4 {env:Nat->AV} {p:gt} {sz i j:Nat} {vs:List T}:Dt { S with env:=env } p sz i j vs=(Dt S p sz i j vs).map fun S1=> { S1 with env:=env } :=by
 unfold Dt;have : ({ S with env:=env }:St).rows p sz=S.rows p sz:=rfl;rw [this];split
 ·split
  ·simp only [aH];rfl
  ·rfl
 ·rfl
theorem Qy {p:gt} {sz i j:Nat} {vs:List T} (h:Dt S p sz i j vs=some S'):S'.env=S.env/\S'.bx=S.bx/\S'.nt=S.nt/\ ∀ r,r≠p.r->S'.gh r=S.gh r:=by
 unfold Dt at h;split at h
 ·split at h
  ·simp only [af] at h;subst h;unfold St.setAt;refine⟨rfl,rfl,rfl,fun r hr=> ?_⟩;simp [gz,hr]
  ·cases h
 ·cases h
theorem aeh {t:TypeId} {a v:AV} (hs:ade (Qp P) t a=true) (h:store P S t a v=some S'):
  S'.env=S.env/\S'.nt=S.nt/\(∀ env,store P { S with env:=env } t a v=some { S' with env:=env })/\ ∀ b n,S8 b a=true->jh S' n b=jh S n b:=by
 unfold store at h;simp only at h;split at h
 ·cases h
 ·rename_i hc;split at h
  ·rename_i b j;simp only [ao] at h;obtain⟨cs,h1,h⟩:=h;split at h
   ·rename_i hle;simp only [af] at h;subst h;refine⟨rfl,rfl,fun env=> ?_,fun c n hap=> ?_⟩
    ·unfold store;simp only [hc,if_false,h1,ae,hle,if_true]
    ·cases c with
     | ptrB b' j'=>
       have :b'≠b:=by simpa [S8] using hap
       simp only [jh,gz,if_neg this]
     | ptrT p sz i j=>rfl
     | pro cs=>rfl
     | _=>simp [S8] at hap
   ·cases h
  ·rename_i p sz i j;simp only [ao] at h;obtain⟨S1,h1,h⟩:=h;have hfl: (C0 P 9 t).all (· ==0)=true:=hs;rw [if_pos hfl] at h;simp only [af] at h;subst h;obtain⟨e1,e2,e3,e4⟩:=Qy h1;refine⟨e1,e3,fun env=> ?_,fun c n hap=> ?_⟩
   ·unfold store;simp only [hc,if_false,K4,h1,aH,ae,hfl,if_true]
   ·cases c with
    | ptrB b' j'=>simp only [jh,e2]
    | pro cs=>rfl
    | ptrT q sz' i' j'=>
      have :q.r≠p.r:=by simpa [S8] using hap
      have hrows:S1.rows q sz'=S.rows q sz':=by unfold St.rows St.look; rw [e4 q.r this]
      simp only [jh,hrows]
    | _=>simp [S8] at hap
  ·cases h
theorem anh {l:List (Nat×Nat)} (h:l≠ []):S7 l [] =false:=by
 cases l with
 | nil=>exact absurd rfl h
 | cons x l=>rfl
theorem O0 {p:gt} (hp:p.l≠ []) {v:AV} (h:akW v=true):EJ p v=v:=by
 cases v with
 | own q sz lo len=>
   have :q.l= [] :=List.isEmpty_iff.1 h;simp only [EJ,under,this,anh hp,Bool.and_false,be,if_false]
 | ptrT q sz i j=>
   have :q.l= [] :=List.isEmpty_iff.1 h;simp only [EJ,under,this,anh hp,Bool.and_false,be,if_false]
 | agg cs=>cases h
 | tup vs=>cases h
 | fn f cs=>cases h
 | _=>rfl
theorem Yt {f:AV->AV} {g:AV->Bool} (hf: ∀ v,g v=true->f v=v) {cs:List AV} (h:cs.all g=true):cs.map f=cs:=by
 induction cs with
 | nil=>rfl
 | cons c cs ih=>
   simp only [cQ,ax] at h;rw [aX,hf c h.1,ih h.2]
theorem Yu {p:gt} (hp:p.l≠ []) {v:AV} (h:am6 v=true):HP p v=v:=by
 cases v with
 | agg cs=>simp only [HP]; rw [Yt (fun v hv=>O0 hp hv) h]
 | fn f cs=>simp only [HP]; rw [Yt (fun v hv=>O0 hp hv) h]
 | tup vs=>cases h
 | _=>
   simp only [HP];exact O0 hp h
theorem adi {p:gt} (hp:p.l≠ []) {v:AV} (h:Yb v=true):kill p v=v:=by
 cases v with
 | tup vs=>simp only [kill]; rw [Yt (fun v hv=>Yu hp hv) h]
 | _=>
   simp only [kill];exact Yu hp h
theorem ani (p:gt) (i j:Nat): (p.sub i j).l≠ [] :=by simp [gt.sub]
def Qz (F:St->Option St) (S S':St):Prop:= ∃ K:AV->AV,(∀ v,Yb v=true->K v=v)/\S'.env=(fun t=>K (S.env t))/\S'.nt=S.nt/\ ∀ env,F { S with env:=env } =some { S' with env:=fun t=>K (env t) }
theorem abm {p:gt} {i j sz:Nat} {v:AV} (h:EK S p i j sz v=some S'):Qz (fun X=>EK X p i j sz v) S S':=by
 have keep:EK S p i j sz v=some S->(∀ env,EK { S with env:=env } p i j sz v=some { S with env:=env })->Qz (fun X=>EK X p i j sz v) S S':=by
  intro h1 h2;rw [h1] at h;simp only [af] at h;subst h;exact⟨id,fun _ _=>rfl,rfl,rfl,h2⟩
 cases v with
 | own q s lo len=>
   unfold EK at h;simp only at h;split at h
   ·rename_i hc;simp only [ao] at h;obtain⟨rows,h1,h⟩:=h;split at h
    ·rename_i hle;simp only [af] at h;subst h;refine⟨kill (p.sub i j),fun v hv=>adi (ani p i j) hv,rfl,rfl,fun env=> ?_⟩;have h1': ({ S with env:=env }:St).rows q s=some rows:=h1;have hc':q.l= [] /\s=sz/\lo=0/\({ S with env:=env }:St).fz<=q.r/\q.r≠p.r:=hc;show (if q.l= [] /\s=sz/\lo=0/\({ S with env:=env }:St).fz<=q.r/\q.r≠p.r then (({ S with env:=env }:St).rows q s).bind fun rows=>_ else _)=_;rw [if_pos hc',h1',ae,if_pos hle];rfl
    ·cases h
   ·cases h
 | em=>
   simp only [EK,af] at h;subst h;exact⟨kill (p.sub i j),fun v hv=>adi (ani p i j) hv,rfl,rfl,fun env=>rfl⟩
 | _=>exact keep rfl fun _=>rfl
theorem Te {p:gt} {i:Nat}: ∀ (j:Nat) (ss:List Nat) (vs:List AV) (S S':St),jj S p i j ss vs=some S'->Qz (fun X=>jj X p i j ss vs) S S':=by
 intro j ss
 induction ss generalizing j with
 | nil=>
   intro vs S S' h;simp only [jj,af] at h;subst h;exact⟨id,fun _ _=>rfl,rfl,rfl,fun _=>rfl⟩
 | cons sz ss ih=>
   intro vs S S' h;cases vs with
   | nil=>
     simp only [jj,af] at h;subst h;exact⟨id,fun _ _=>rfl,rfl,rfl,fun _=>rfl⟩
   | cons v vs=>
     simp only [jj,ao] at h;obtain⟨S1,h1,h2⟩:=h
     have g1:Qz (fun X=>if sz=0 then some X else EK X p i j sz v) S S1:=by
      by_cases hz:sz=0
      ·simp only [if_pos hz,af] at h1;subst h1;exact⟨id,fun _ _=>rfl,rfl,rfl,fun _=>by simp only [if_pos hz]; rfl⟩
      ·simp only [if_neg hz] at h1;obtain⟨K,a,b,c,d⟩:=abm h1;exact⟨K,a,b,c,fun env=>by simp only [if_neg hz]; exact d env⟩
     obtain⟨K,a1,a2,a3,a4⟩:=g1;obtain⟨K',b1,b2,b3,b4⟩:=ih _ _ _ _ h2;refine⟨fun v=>K' (K v),fun v hv=>by show K' (K v)=v; rw [a1 v hv,b1 v hv],by rw [b2]; funext t; rw [a2],b3.trans a3,fun env=> ?_⟩;have a4': (if sz=0 then some { S with env:=env } else EK { S with env:=env } p i j sz v)=some { S1 with env:=fun t=>K (env t) } :=a4 env;simp only [jj];rw [a4'];exact b4 (fun t=>K (env t))
theorem abn {t:TypeId} {a v:AV} (h:store P S t a v=some S'):Qz (fun X=>store P X t a v) S S':=by
 unfold store at h;simp only at h;split at h
 ·cases h
 ·rename_i hc;split at h
  ·rename_i b j;simp only [ao] at h;obtain⟨cs,h1,h⟩:=h;split at h
   ·rename_i hle;simp only [af] at h;subst h;refine⟨id,fun _ _=>rfl,rfl,rfl,fun env=> ?_⟩;unfold store;simp only [hc,if_false,h1,ae,hle,if_true];rfl
   ·cases h
  ·rename_i p sz i j;simp only [ao] at h;obtain⟨S1,h1,h⟩:=h;obtain⟨e1,e2,e3,e4⟩:=Qy h1;by_cases hfl: (C0 P 9 t).all (· ==0)=true
   ·rw [if_pos hfl] at h;simp only [af] at h;subst h;refine⟨id,fun _ _=>rfl,e1,e3,fun env=> ?_⟩;unfold store;simp only [hc,if_false,K4,h1,aH,ae,hfl,if_true];rfl
   ·rw [if_neg hfl] at h;split at h
    ·rename_i hfz;obtain⟨K,b1,b2,b3,b4⟩:=Te _ _ _ _ _ h;refine⟨K,b1,by rw [b2,e1],b3.trans e3,fun env=> ?_⟩;unfold store;simp only [hc,if_false,K4,h1,aH,ae,hfl,hfz,if_true];exact b4 env
    ·cases h
  ·cases h
end
end
section
open Go Go.RowKit
section
variable {P:Program} {w0 w w':World} {W:Nat->Prop} {btI bt bt':Bt} {SI S S' S0:St} {a:Act} {D:GA}
theorem VR.rebox {bt2:Bt} (hβ:bt2.β=bt.β) (hκ:bt2.κ=bt.κ) (hA:bt2.A=bt.A) (hng:bt2.ng=bt.ng) {p:Nat->Bool} (hp: ∀ n,p n=true->n < bt2.nb/\bt2.bb n=bt.bb n) {v:AV} {u:Value} (h:VR w bt v u):tZ p v=true->VR w bt2 v u:=by
 induction h with
 | sc h=>intro _; exact .sc h
 | em a=>intro _; exact .em a
 | ro h=>intro _; exact .ro (by rw [hA]; exact h)
 | own hp hc hk ha=>intro _; exact .own (by rw [hng]; exact hp) hc (by rw [hκ]; exact hk) (by rw [hβ]; exact ha)
 | pro cs hs hb hr ht=>intro _; exact .pro cs hs (by rw [hA]; exact hb) hr (fun j x hx=>by rw [hA]; exact ht j x hx)
 | ptrB j hn=>
   intro hb;obtain⟨h1,h2⟩:=hp _ hb;rw [<-h2];exact .ptrB j h1
 | ptrT sz i j hp hk=>intro _; rw [<-hβ]; exact .ptrT sz i j (by rw [hng]; exact hp) (by rw [hκ]; exact hk)
 | fn f hl h ih=>intro hb; exact .fn f hl (fun k c u h1 h2=>ih k c u h1 h2 (vl hb (au h1)))
 | agg hl ho h ih=>intro hb; exact .agg hl ho (fun k c u h1 h2=>ih k c u h1 h2 (vl hb (au h1)))
 | tup hl h ih=>intro hb; exact .tup hl (fun k c u h1 h2=>ih k c u h1 h2 (vl hb (au h1)))
 | dead u=>intro _; exact .dead u
theorem VR.boxlt {v:AV} {u:Value} (h:VR w bt v u):tZ (fun n=>Nat.blt n bt.nb) v=true:=by
 have lst: ∀ {cs:List AV} {us:List Value},us.length=cs.length->(∀ (k:Nat) (c:AV) (u:Value),cs[k]? =some c->us[k]? =some u->tZ (fun n=>Nat.blt n bt.nb) c=true)->JX (fun n=>Nat.blt n bt.nb) cs=true:=by
  intro cs us hl h;refine Yo fun c hc=> ?_;obtain⟨k,hk,he⟩:=aM hc;exact h k c _ (by rw [<-he]; exact ai hk) (ai (by omega))
 induction h with
 | ptrB j hn=>exact Nat.ble_eq_true_of_le hn
 | fn f hl h ih=>exact lst hl ih
 | agg hl ho h ih=>exact lst hl ih
 | tup hl h ih=>exact lst hl ih
 | _=>rfl
mutual
theorem Tf {p q:Nat->Bool} (h: ∀ n,p n=true->q n=true): ∀ (v:AV),tZ p v=true->tZ q v=true
 | .ptrB n _,hv=>h n hv
 | .fn _ cs,hv=>IW h cs hv
 | .agg cs,hv=>IW h cs hv
 | .tup cs,hv=>IW h cs hv
 | .sc _,_=>rfl
 | .em,_=>rfl
 | .ro _ _,_=>rfl
 | .own _ _ _ _,_=>rfl
 | .pro _,_=>rfl
 | .ptrT _ _ _ _,_=>rfl
 | .dead,_=>rfl
theorem IW {p q:Nat->Bool} (h: ∀ n,p n=true->q n=true): ∀ (vs:List AV),JX p vs=true->JX q vs=true
 | [],_=>rfl
 | v::vs,hv=>by
   unfold JX at hv ⊢;simp only [ax] at hv ⊢;exact⟨Tf h v hv.1,IW h vs hv.2⟩
end
theorem Yv (p:Nat->Bool) (v:Value):tZ p (XU v)=true:=by
 unfold XU
 repeat' split
 all_goals rfl
theorem anj (p:Nat->Bool) (v:Value):tZ p (ofV v)=true:=by
 unfold ofV;split
 ·split
  ·unfold tZ;refine Yo fun c hc=> ?_;obtain⟨x,_,rfl⟩:=aQ.1 hc;exact Yv p x
  ·rfl
 ·exact Yv p _
theorem adj (v:Value):XU v= .sc v\/XU v= .em\/XU v= .dead:=by
 unfold XU;split
 ·exact .inl rfl
 ·split
  ·exact .inr (.inl rfl)
  ·exact .inr (.inr rfl)
theorem ank (v:Value):AJ (ofV v)= [] :=by
 unfold ofV;split
 ·split
  ·simp only [AJ];refine List.flatMap_eq_nil_iff.2 fun c hc=> ?_;obtain⟨x,_,rfl⟩:=aQ.1 hc;rcases adj x with h | h | h <;> rw [h]
  ·rfl
 ·rcases adj v with h | h | h <;> rw [h] <;> rfl
def QA (N m:Nat):Nat->Bool:=fun n=>Nat.blt n N&& !Nat.beq n m
theorem apt {N m n:Nat} (h:QA N m n=true):n < N/\n≠m:=by
 unfold QA at h;simp only [ax,ca] at h;refine⟨aF h.1,fun e=> ?_⟩;rw [e,cJ] at h;cases h.2
theorem aei {N m n:Nat} (h:n < N) (hm:n≠m):QA N m n=true:=by
 unfold QA;have h1:Nat.blt n N=true:=Nat.ble_eq_true_of_le h
 have h2:Nat.beq n m=false:=by
  cases hx:Nat.beq n m with
  | false=>rfl
  | true=>exact absurd (ay hx) hm
 rw [h1,h2];rfl
theorem kr.addBoxAt (hI:kr w0 W bt S w) {b m:Nat} {cells:List AV} {cs:Array Value} {e:TypeId} (hb:w0.heap.size<=b) (hh:w.heap[b]? =some (.cells cs e (0,0))) (hl:cs.size=cells.length)
  (hc: ∀ (j:Nat) (v:AV),cells[j]? =some v-> ∃ c,cs[j]? =some c/\VR w bt v c/\c.oneCell'=true) (hcm: ∀ c∈cells,tZ (QA S.nb m) c=true) (hm:m < S.nb) (hfree:S.bx m=none)
  (hbx: ∀ n cs,S.bx n=some cs-> ∀ c∈cs,tZ (QA S.nb m) c=true)
  (hnb: ∀ n cs,S.bx n=some cs->bt.bb n≠b) (hnt: ∀ p sz rows,S.look p= .sl sz rows->0 < bt.κ p->bt.β p≠b) (hnA: ¬ bt.A b):
  (∀ (v:AV) (u:Value),VR w bt v u->tZ (QA S.nb m) v=true->VR w { bt with bb:=gz bt.bb m b } v u)/\kr w0 W { bt with bb:=gz bt.bb m b } { S with bx:=gz S.bx m (some cells) } w:=by
 have re: ∀ (v:AV) (u:Value),VR w bt v u->tZ (QA S.nb m) v=true->VR w { bt with bb:=gz bt.bb m b } v u:=fun v u h hv=>h.rebox (bt:=bt) (bt2:= { bt with bb:=gz bt.bb m b }) rfl rfl rfl rfl (fun n hn=>by
  obtain⟨h1,h2⟩:=apt hn;exact⟨by show n < bt.nb; rw [hI.nb]; exact h1,by show gz bt.bb m b n=bt.bb n; simp [gz,h2]⟩) hv
 refine⟨re,?_⟩
 have old: ∀ n c,gz S.bx m (some cells) n=some c->(n=m/\c=cells)\/(n < S.nb/\S.bx n=some c/\gz bt.bb m b n=bt.bb n):=by
  intro n c h;unfold gz at h;split at h
  ·rename_i he;simp only [af] at h;exact .inl ⟨he,h.symm⟩
  ·rename_i he;have:=(hI.bx n c h).1;exact .inr ⟨this,h,by simp [gz,he]⟩
 have hnew:gz bt.bb m b m=b:=by simp [gz]
 have hle:bt.le { bt with bb:=bt.bb } :=Bt.le.refl _
 exact { os:=hI.os,tape:=hI.tape,output:=hI.output,size:=hI.size,keep:=hI.keep,nb:=hI.nb,ng:=hI.ng
         bx:=fun n c h=>by
          rcases old n c h with ⟨rfl,rfl⟩ | ⟨h1,h2,h3⟩
          ·refine⟨hm,by show w0.heap.size<=gz bt.bb n b n; rw [hnew]; exact hb,cs,e,by show w.heap[gz bt.bb n b n]? =_; rw [hnew]; exact hh,hl,fun j v hj=> ?_⟩;obtain⟨c',g1,g2,g3⟩:=hc j v hj;exact⟨c',g1,re _ _ g2 (hcm _ (au hj)),g3⟩
          ·obtain⟨g1,g2,cs',e',g3,g4,g5⟩:=hI.bx n c h2;refine⟨h1,?_,cs',e',?_,g4,fun j v hj=> ?_⟩
           ·show w0.heap.size<=gz bt.bb m b n;rw [h3]; exact g2
           ·show w.heap[gz bt.bb m b n]? =_;rw [h3]; exact g3
           ·obtain⟨c',k1,k2,k3⟩:=g5 j v hj;exact⟨c',k1,re _ _ k2 (hbx _ _ h2 _ (au hj)),k3⟩
         gh:=hI.gh
         tr:=fun p sz rows h=>by
          obtain⟨h1,h2⟩:=hI.tr p sz rows h;refine⟨h1,fun hk=> ?_⟩;obtain⟨h3,cs',e',k1,k2,k3,k4⟩:=h2 hk;refine⟨h3,cs',e',k1,k2,k3,fun i r hr=> ?_⟩;obtain⟨q1,q2⟩:=k4 i r hr;refine⟨q1,fun j x hx=> ?_⟩;obtain⟨c,q3,q4⟩:=q2 j x hx;exact⟨c,q3,q4.mono rfl rfl⟩
         inj:=hI.inj
         bbinj:=fun n k c c' h h' he=>by
          have he':gz bt.bb m b n=gz bt.bb m b k:=he;rcases old n c h with ⟨rfl,rfl⟩ | ⟨h1,h2,h3⟩ <;> rcases old k c' h' with ⟨rfl,rfl⟩ | ⟨k1,k2,k3⟩
          ·rfl
          ·rw [hnew,k3] at he'; exact absurd he'.symm (hnb _ _ k2)
          ·rw [hnew,h3] at he'; exact absurd he' (hnb _ _ h2)
          ·rw [h3,k3] at he'; exact hI.bbinj _ _ _ _ h2 k2 he'
         bbtr:=fun n c p sz rows h h' hk=>by
          show gz bt.bb m b n≠bt.β p;rcases old n c h with ⟨rfl,rfl⟩ | ⟨h1,h2,h3⟩
          ·rw [hnew]; exact fun he=>hnt p sz rows h' hk he.symm
          ·rw [h3]; exact hI.bbtr _ _ _ _ _ h2 h' hk
         alt:=hI.alt,atr:=hI.atr
         abb:=fun n c h=>by
          show ¬ bt.A (gz bt.bb m b n);rcases old n c h with ⟨rfl,rfl⟩ | ⟨h1,h2,h3⟩
          ·rw [hnew]; exact hnA
          ·rw [h3]; exact hI.abb _ _ h2 }
theorem abo (hI:kr w0 W bt S w) (hE:ER w bt S a) {t:TypeId} {zs:List Value} (h:S5 P t=some zs) {m:Nat} (hm:m < S.nb) (hfree:S.bx m=none)
  (henv: ∀ t,tZ (QA S.nb m) (S.env t)=true) (hbx: ∀ n cs,S.bx n=some cs-> ∀ c∈cs,tZ (QA S.nb m) c=true):
  ∃ u w' bt',(Instr.alloc t true (.tuple #[])).run P w= .ok u w'/\kr w0 W bt' { S with bx:=gz S.bx m (some (zs.map XU)) } w'/\ER w' bt' S a/\VR w' bt' (.ptrB m 0) u/\bt'.β=bt.β/\bt'.κ=bt.κ:=by
 obtain⟨i,z,hi,hz,rfl,hall⟩:=zf h;have hb:=AK w (.cells z.cells t);have hA: ∀ b,bt.A b->({ w with heap:=w.heap.push (.cells z.cells t) }:World).heap[b]? =w.heap[b]? :=fun b h=>hb.block b (hI.alt b h);obtain⟨f1,f2,f3⟩:=hI.fresh (b:=w.heap.size) (aE _)
 obtain⟨re,hI'⟩:=(hI.grow hb).addBoxAt (b:=w.heap.size) (m:=m) (cells:=z.cells.toList.map XU) (cs:=z.cells) (e:=t) hI.size (FT w _) (by simp) (fun j v hj=>by
  obtain⟨c,g1,g2,g3⟩:=adf (bt:=bt) (w:=w) z hall j v hj
  exact⟨c,g1,g2.mono (Bt.le.refl _) hA,g3⟩) (fun c hc=>by
   obtain⟨x,_,rfl⟩:=aQ.1 hc;exact Yv _ _) hm hfree hbx f1 f2 f3
 refine⟨_,_,_,by simp [Instr.alloc,zeroValue,typeInfo,hi,hz,newVar,newRow]; rfl,hI',⟨hE.1,fun t=>re _ _ ((hE.2 t).mono (Bt.le.refl _) hA) (henv t)⟩,?_,rfl,rfl⟩;have :gz bt.bb m w.heap.size m=w.heap.size:=by simp [gz]
 have h:=VR.ptrB (w:= { w with heap:=w.heap.push (.cells z.cells t) }) (bt:= { bt with bb:=gz bt.bb m w.heap.size }) (n:=m) 0 (by show m < bt.nb; rw [hI.nb]; exact hm);simp only [this] at h;exact h
theorem Lv.widenB (h:Lv w0 W btI SI bt S a w) {N:Nat} (hN:S.nb<=N):Lv w0 W btI SI { bt with nb:=N } { S with nb:=N } a w:=by
 have hle:bt.le { bt with nb:=N } :=⟨by show bt.nb<=N; rw [h.inv.nb]; exact hN,aE _,fun _ h=>h,fun _ _=>rfl,fun _ _=>rfl,fun _ _=>rfl⟩
 exact⟨{ os:=h.inv.os,tape:=h.inv.tape,output:=h.inv.output,size:=h.inv.size,keep:=h.inv.keep,nb:=rfl,ng:=h.inv.ng
         bx:=fun n cells hn=>by
          obtain⟨h1,h2,h3⟩:=h.inv.bx n cells hn;exact⟨bh h1 hN,h2,h3.mono hle (by rw [h.inv.nb]; exact h1) (fun _ _=>rfl) rfl⟩
         gh:=h.inv.gh
         tr:=fun p s rs hp=>by
          obtain⟨h1,h2⟩:=h.inv.tr p s rs hp;exact⟨h1,fun hk=>⟨(h2 hk).1,(h2 hk).2.mono hle (h.inv.look_lt (S:=S) hp) rfl⟩⟩
         inj:=h.inv.inj
         bbinj:=h.inv.bbinj
         bbtr:=h.inv.bbtr
         alt:=h.inv.alt
         atr:=h.inv.atr
         abb:=h.inv.abb },⟨h.er.1,fun t=>(h.er.2 t).mono hle (fun _ _=>rfl)⟩,h.defers,h.fz,h.fzng,h.keep,h.gone⟩
theorem alR {f:Nat->Option (List AV)} {sz:Nat} {v:AV} (h: ∀ n j,v= .ptrB n j->f n=S.bx n):kO { S with bx:=f } sz v=kO S sz v:=by
 have hof: ∀ (sz:Nat) (c:AV),T.ofAV { S with bx:=f } sz c=T.ofAV S sz c:=fun sz c=>by cases c <;> rfl
 cases v with
 | ptrB n j=>
   have e:=h n j rfl;simp only [kO];rw [e];cases S.bx n with
   | none=>rfl
   | some cs=>
     simp only
     congr 1
 | _=>rfl
theorem IX {p:Nat->Bool} {f:Nat->Option (List AV)} (hf: ∀ n,p n=true->f n=S.bx n) {sz:Nat} {v:AV} (h:tZ p v=true):kO { S with bx:=f } sz v=kO S sz v:=
 alR (fun n j e=>hf n (by subst e; exact h))
theorem anl {p:Nat->Bool} {f:Nat->Option (List AV)} (hf: ∀ n,p n=true->f n=S.bx n) {szs:List Nat} {v:AV} (h:tZ p v=true):sQ { S with bx:=f } szs v=sQ S szs v:=by
 cases v with
 | agg cs=>
   simp only [sQ];split
   ·congr 1
    apply bS;intro k;rw [bA,bA];cases hs:szs[k]? with
    | none=>rfl
    | some s=>
      cases hx:cs[k]? with
      | none=>rfl
      | some c=>
        simp only [af];exact IX hf (vl h (au hx))
   ·rfl
 | fn g cs=>
   simp only [sQ]
   congr 1
   exact aO fun c hc=>IX hf (vl h hc)
 | ptrB n j=>exact IX (sz:=szs.headD 0) (v:= .ptrB n j) hf h
 | _=>rfl
theorem anm {p:Nat->Bool} {f:Nat->Option (List AV)} (hf: ∀ n,p n=true->f n=S.bx n) {o:Oper} (h: ∀ x∈o.op.operands,tZ p (opd S x)=true):mp D P { S with bx:=f } o=mp D P S o:=by
 have ho:opd { S with bx:=f } =opd S:=funext fun x=>by cases x <;> rfl
 have hs: ∀ sz fl v,nY { S with bx:=f } sz fl v=nY S sz fl v:=fun sz fl v=>by cases v <;> rfl
 have hb: ∀ L sz v,Bf (dropL { S with bx:=f } L) sz v=Bf (dropL S L) sz v:=fun L sz v=>by cases v <;> rfl
 have hpn: ∀ ss vss,nB { S with bx:=f } ss vss=nB S ss vss:=fun ss vss=>OZ (env:=S.env) ss vss;obtain⟨dst,op,type,pos,after,guard⟩:=o;cases op with
 | buildSlice t len parts=>simp only [mp,ho,hpn]
 | call c=>
   obtain⟨cl,as,ts⟩:=c;cases cl with
   | builtin b=>cases b <;> first | rfl | (simp only [mp,ho,hs,hb])
   | invoke r m=>rfl
   | value g=>
     simp only [mp];have hg:tZ p (opd S g)=true:=h g (by simp [Op.operands,Call.operands]);have hc:callee { S with bx:=f } g=callee S g:=by unfold callee; rw [ho]
     rw [hc];cases hcl:callee S g with
     | none=>rfl
     | some gc=>
       obtain⟨g',caps⟩:=gc;simp only [ae]
       have hcaps: ∀ c∈caps,tZ p c=true:=by
        intro c hcm;unfold callee at hcl;split at hcl
        ·simp only [af,aq] at hcl;rw [<-hcl.2] at hcm;cases hcm
        ·rename_i g2 caps2 e;simp only [af,aq] at hcl;rw [<-hcl.2] at hcm;rw [e] at hg;exact vl hg hcm
        ·cases hcl
       have :args P { S with bx:=f } ts as caps=args P S ts as caps:=by
        unfold args;rw [ho]
        congr 1
        ·apply bS;intro k;rw [bA,bA];cases hs:ts.toList[k]? with
         | none=>rfl
         | some s=>
           cases hx:as.toList[k]? with
           | none=>rfl
           | some x=>
             simp only [af];refine anl hf (h x ?_);have:=au hx;simp [Op.operands,Call.operands];right;simpa using this
        ·exact aO fun c hcm=>IX hf (hcaps c hcm)
       rw [this]
 | _=>rfl
theorem ajh {p:Nat->Bool} {f:Nat->Option (List AV)} (hf: ∀ n,p n=true->f n=S.bx n) {n:Nat} {v:AV} (h:tZ p v=true):jh { S with bx:=f } n v=jh S n v:=by
 cases v with
 | ptrB b j=>
   have:=hf b h;simp only [jh];rw [this]
 | _=>rfl
theorem O1: ∀ (l:List Oper) (S S0:St),ad2 P l S=some S0->S0= { S with bx:=S0.bx,nb:=S0.nb } /\S0.nb=S.nb+jX l/\(∀ n,n < S.nb->S0.bx n=S.bx n)/\(∀ n cs,S.nb<=n->S0.bx n=some cs->S.bx n=some cs\/ ∃ (k:Nat) (o:Oper) (zs:List Value),l[k]? =some o/\kE o=true/\n=S0.nb - 1 - jX (l.drop (k+1))/\cs=zs.map ofV)/\
  ∀ (k:Nat) (o:Oper),l[k]? =some o->kE o=true-> ∃ t zs,o.op= .alloc t/\S5 P t=some zs/\S0.bx (S0.nb - 1 - jX (l.drop (k+1)))=some (zs.map ofV)
 | [],S,S0,h=>by
   simp only [ad2,af] at h;subst h;exact⟨rfl,rfl,fun _ _=>rfl,fun n cs _ h=> .inl h,fun k o hk=>by simp at hk⟩
 | o::os,S,S0,h=>by
   unfold ad2 at h;split at h
   ·rename_i t ht;simp only [ao] at h;obtain⟨zs,hz,h⟩:=h;obtain⟨e1,e2,e3,e4,e5⟩:=O1 os _ S0 h;have hbo:kE o=true:=by unfold kE; rw [ht]
    have hc:jX (o::os)=1+jX os:=by simp only [jX,hbo,if_true]
    refine⟨?_,by rw [e2,hc]; show S.nb+1+jX os=_; omega,fun n hn=> ?_,fun n cs hn hcs=> ?_,fun k o' hk hb=> ?_⟩
    ·conv=>lhs; rw [e1]
    ·rw [e3 n (Nat.lt_succ_of_lt hn)];show gz S.bx S.nb _ n=_;simp [gz,Nat.ne_of_lt hn]
    ·by_cases hnn:n < S.nb+1
     ·have :n=S.nb:=by omega
      subst this;rw [e3 S.nb (cU _)] at hcs;have h2:gz S.bx S.nb (some (zs.map ofV)) S.nb=some cs:=hcs;simp only [gz,if_true,af] at h2;exact .inr ⟨0,o,zs,rfl,hbo,by rw [e2]; show S.nb=S.nb+1+jX os - 1 - jX os; omega,h2.symm⟩
     ·rcases e4 n cs (by show S.nb+1<=n; omega) hcs with h1 | h1
      ·left;have h2:gz S.bx S.nb (some (zs.map ofV)) n=some cs:=h1;unfold gz at h2;rw [if_neg (by omega)] at h2;exact h2
      ·obtain⟨k,o',zs',q1,q2,q3,q4⟩:=h1;exact .inr ⟨k+1,o',zs',q1,q2,q3,q4⟩
    ·cases k with
     | zero=>
       simp only [aL,af] at hk;subst hk;refine⟨t,zs,ht,hz,?_⟩
       have :S0.nb - 1 - jX os=S.nb:=by
        rw [e2];show S.nb+1+jX os - 1 - jX os=S.nb;omega
       simp only [aY,List.drop_succ_cons,bM];rw [this,e3 S.nb (cU _)];show gz S.bx S.nb _ S.nb=_;simp [gz]
     | succ k=>exact e5 k o' (by simpa using hk) hb
   ·rename_i hno;obtain⟨e1,e2,e3,e4,e5⟩:=O1 os S S0 h
    have hbo:kE o=false:=by
     unfold kE;split
     ·rename_i t ht;exact absurd ht (hno t)
     ·rfl
    have hc:jX (o::os)=jX os:=by simp [jX,hbo]
    refine⟨e1,by rw [e2,hc],e3,fun n cs hn hcs=> ?_,fun k o' hk hb=> ?_⟩
    ·rcases e4 n cs hn hcs with h1 | ⟨k,o',zs',q1,q2,q3,q4⟩
     ·exact .inl h1
     ·exact .inr ⟨k+1,o',zs',q1,q2,q3,q4⟩
    cases k with
    | zero=>
      simp only [aL,af] at hk;subst hk;rw [hbo] at hb;cases hb
    | succ k=>exact e5 k o' (by simpa using hk) hb
theorem Vn (l:List Oper): ∀ (k:Nat),jX (l.drop k)<=jX l:=by
 intro k
 induction l generalizing k with
 | nil=>simp
 | cons o l ih=>
   cases k with
   | zero=>exact aE _
   | succ k=>
     simp only [List.drop_succ_cons,jX];have:=ih k;omega
theorem adk {l:List Oper} {k:Nat} {o:Oper} (h:l[k]? =some o) (hb:kE o=true):jX (l.drop (k+1))+1=jX (l.drop k):=by
 have hlt:=(aj.1 h).1;have he:=(aj.1 h).2;rw [bR hlt,he];simp only [jX,hb,if_true];omega
theorem agX {l:List Oper}: ∀ {i j:Nat},i<=j->jX (l.drop j)<=jX (l.drop i):=by
 intro i j h;have :l.drop j=(l.drop i).drop (j - i):=by rw [b6]; congr 1; omega
 rw [this];exact Vn _ _
end
end
section
open Go Go.RowKit
section
variable {P:Program} {w0 w w':World} {W:Nat->Prop} {btI bt bt':Bt} {SI S S' SV:St} {a a':Act} {D:GA} {Q:Exit->Act->World->Prop} {ops:Array Oper} {ms:List p6}
def Hs (ops:Array Oper) (S:St) (i:Nat):Nat:=S.nb - 1 - jX (ops.toList.drop (i+1))
def Yw (ops:Array Oper) (S:St) (L:Array Bool) (n:Nat):Bool:=(List.range ops.size).any fun i=>match ops[i]? with | some o=>kE o&& !L.getD i false&&(Hs ops S i==n) | none=>false
def Yx (ops:Array Oper) (S:St) (L:Array Bool) (n:Nat):Option (List AV):=if Yw ops S L n then none else S.bx n
theorem xY {S:St} {L:Array Bool} {n:Nat}:Yw ops S L n=true↔ ∃ i o,ops[i]? =some o/\kE o=true/\L.getD i false=false/\Hs ops S i=n:=by
 unfold Yw;rw [cf];constructor
 ·rintro⟨i,_,h⟩
  cases ho:ops[i]? with
  | none=>rw [ho] at h; cases h
  | some o=>
    rw [ho] at h;simp only [ax,ca,beq_iff_eq] at h;exact⟨i,o,ho,h.1.1,h.1.2,h.2⟩
 ·rintro⟨i,o,ho,h1,h2,h3⟩
  refine⟨i,bO.2 (aU.1 ho).1,?_⟩;rw [ho];simp [h1,h2,h3]
def Tg (ops:Array Oper) (S SV:St) (ms:List p6) (L:Array Bool):St:= { S with env:=ph ops S SV L,bx:=Yx ops S L,gh:=Wk S ms L,ng:=SV.ng }
abbrev idV:AV->AV:=fun v=>v
def Sim (w0:World) (W:Nat->Prop) (btI:Bt) (SI:St) (D:GA) (P:Program) (ops:Array Oper) (S SV S':St) (ms:List p6) (M:Bool) (L:Array Bool) (a:Act) (w:World):Prop:=
 (∃ bt,(∀ i o,ops[i]? =some o->eD o=true->L.getD i false=false)/\Lv w0 W btI SI bt (Tg ops S SV ms L) a w/\ ∀ (p:gt) (c:Nat),S.ng<=p.r->D4 ms p.r=some c->L.getD c false=false->bt.κ p=0)\/
 (∃ bt k Sm,∃ K:AV->AV,(∀ i o,ops[i]? =some o->eD o=false->BB o=true->L.getD i false=true)/\(∀ i o,ops[i]? =some o->eD o=true->(L.getD i false=true↔i < k))/\evS D P ops (ops.toList.drop k) Sm=some S'/\Sm.env=(fun t=>K (SV.env t))/\Sm.nt=S.nt/\
   (∀ i o t x n,ops[i]? =some o->o.op= .load t x->L.getD i false=false->jh Sm n (wF ops.toList (oU ops.toList) S SV i x)=jh SV n (wF ops.toList (oU ops.toList) S SV i x))/\Lv w0 W btI SI bt { Sm with env:=fun t=>K (ph ops S SV L t) } a w/\(M=true->K=idV)/\(∀ v,Yb v=true->K v=v)/\(M=false-> ∀ i oi,ops[i]? =some oi->eD oi=false->L.getD i false=false->Hp ops.toList (oU ops.toList) S SV i oi=true))\/
 (∃ bt k Sm,(∀ i o,ops[i]? =some o->eD o=false->L.getD i false=true)/\(∀ i o,ops[i]? =some o->eD o=true->(L.getD i false=true↔i < k))/\evS D P ops (ops.toList.drop k) Sm=some S'/\Lv w0 W btI SI bt Sm a w)
theorem agY {all:Array Oper}: ∀ (n k:Nat) (S:St),(∀ i o,k<=i->i < k+n->ops.toList[i]? =some o->eD o=false)->evS D P all (ops.toList.drop k) S=evS D P all (ops.toList.drop (k+n)) S:=by
 intro n
 induction n with
 | zero=>intro k S _; rfl
 | succ n ih=>
   intro k S h;cases hk:ops.toList[k]? with
   | none=>
     have h1:ops.toList.length<=k:=by simpa using hk
     rw [ch h1,ch (by omega)]
   | some o=>
     have hlt:=(aj.1 hk).1;have ho:=(aj.1 hk).2;rw [bR hlt,ho];simp only [evS,h k o (aE _) (by omega) hk,be,if_false];rw [ih (k+1) S (fun i o h1 h2=>h i o (by omega) (by omega)),show k+1+n=k+(n+1) by omega]
theorem aji (hD:BC P D) (hm:P.follows .mixedOrders=true) (hok:Tb P ops=true) {id:Nat} {Sp:St} (hpre:ad2 P ops.toList Sp=some S) (h:Lv w0 W btI SI bt Sp a w) (hV:Ya D P ops ops.toList S=some (SV,ms)) (hev:ai7 (Qp P) ops.toList (oU ops.toList) S ms SV=true) (hS:evS D P ops ops.toList SV=some S')
  (hK: ∀ bt' a' w',Lv w0 W btI SI bt' S' a' w'->Q .normal a' w'): (Code.region id ops true).wp P Q a w:=by
 have ok:=agO hok;obtain⟨pr1,pr2,pr3,pr4,pr5⟩:=O1 _ _ _ hpre;have sgh:S.gh=Sp.gh:=by rw [pr1]
 have sng:S.ng=Sp.ng:=by rw [pr1]
 have sfz:S.fz=Sp.fz:=by rw [pr1]
 have sev:S.env=Sp.env:=by rw [pr1]
 have hgh: ∀ r t,S.gh r=some t->r < S.ng:=fun r t ht=>by rw [sng]; rw [sgh] at ht; exact h.inv.gh r t ht
 have hfzI:S.fz=SI.fz:=sfz.trans h.fz;have hfzg:S.fz<=S.ng:=by rw [sfz,sng]; exact h.fzng
 have lab: ∀ i o,ops[i]? =some o->kE o=true->Hs ops S i < S.nb/\Sp.nb<=Hs ops S i/\S.nb=Hs ops S i+1+jX (ops.toList.drop (i+1)):=by
  intro i o ho hb;have h1:=adk (l:=ops.toList) (k:=i) (by simpa using ho) hb;have h2:=Vn ops.toList i;unfold Hs;omega
 have labInj: ∀ i j o o',ops[i]? =some o->ops[j]? =some o'->kE o=true->kE o'=true->Hs ops S i=Hs ops S j->i=j:=by
  have half: ∀ i j o o',ops[i]? =some o->ops[j]? =some o'->kE o=true->kE o'=true->i < j->Hs ops S i≠Hs ops S j:=by
   intro i j o o' ho ho' hb hb' hij he;have a1:=(lab i o ho hb).2.2;have a2:=(lab j o' ho' hb').2.2;have a3:=adk (l:=ops.toList) (k:=j) (by simpa using ho') hb';have a4:=agX (l:=ops.toList) (i:=i+1) (j:=j) hij;omega
  intro i j o o' ho ho' hb hb' he;rcases Nat.lt_trichotomy i j with hlt | rfl | hlt
  ·exact absurd he (half i j o o' ho ho' hb hb' hlt)
  ·rfl
  ·exact absurd he.symm (half j i o' o ho' ho hb' hb hlt)
 have bxOf: ∀ n cs,S.bx n=some cs->(n < Sp.nb/\Sp.bx n=some cs)\/ ∃ (k:Nat) (o:Oper) (zs:List Value),ops[k]? =some o/\kE o=true/\n=Hs ops S k/\cs=zs.map ofV:=by
  intro n cs hn;by_cases hlt:n < Sp.nb
  ·exact .inl ⟨hlt,by rw [<-pr3 n hlt]; exact hn⟩
  ·rcases pr4 n cs (by omega) hn with h1 | ⟨k,o,zs,q1,q2,q3,q4⟩
   ·exact absurd (h.inv.bx n cs h1).1 hlt
   ·exact .inr ⟨k,o,zs,by simpa using q1,q2,q3,q4⟩
 have hbxn: ∀ n cs,S.bx n=some cs->n < S.nb:=by
  intro n cs hn;rcases bxOf n cs hn with ⟨h1,_⟩ | ⟨k,o,zs,q1,q2,rfl,_⟩
  ·omega
  ·exact (lab k o q1 q2).1
 have old: ∀ n,n < S.nb - jX ops.toList->n < Sp.nb:=by
  intro n hn;omega
 have oldL: ∀ (L:Array Bool) n,n < Sp.nb->Yx ops S L n=S.bx n:=by
  intro L n hn;unfold Yx;rw [if_neg];intro hw;obtain⟨i,o,ho,hb,_,he⟩:=xY.1 hw;have:=(lab i o ho hb).2.1;omega
 have fullB: ∀ L:Array Bool,(∀ i o,ops[i]? =some o->kE o=true->L.getD i false=true)->Yx ops S L=S.bx:=by
  intro L hL
  funext n
  unfold Yx;rw [if_neg];intro hw;obtain⟨i,o,ho,hb,hl,_⟩:=xY.1 hw;rw [hL i o ho hb] at hl;cases hl
 have tl: ∀ {i:Nat} {o:Oper},ops.toList[i]? =some o↔ops[i]? =some o:=by
  intro i o;rw [cy]
 have hpw:ops.toList.Pairwise (fun x y=> ∀ d,x.dst=some d->y.dst≠some d):=by
  rw [bI];intro i j hi hj hij d h1 h2;have:=ok.dst i j _ _ d (tl.1 (ai hi)) (tl.1 (ai hj)) h1 h2;omega
 obtain⟨f0,f1,fN,f2,f5,f6,f3⟩:=alO ops.toList S SV ms hpw hV;have hb: ∀ (k:Nat) (m:p6),ms[k]? =some m->S.ng<=m.b:=fun k m hk=>(f5 k m hk).1;have hbN: ∀ (k:Nat) (m:p6),ms[k]? =some m->m.b+m.adds.length<=SV.ng:=fun k m hk=>(f5 k m hk).2.1;have hd: ∀ (k j:Nat) (m m':p6),ms[k]? =some m->j < k->ms[j]? =some m'->m'.b+m'.adds.length<=m.b:=fun k j m m' hk hj hm=>(f5 k m hk).2.2 j m' hj hm;have hlen:ms.length=ops.size:=by simpa using f0
 unfold ai7 at hev;simp only [ax] at hev;obtain⟨⟨⟨hev1,hev2⟩,hev3⟩,hev4⟩:=hev
 have hc: ∀ (k:Nat) (m:p6) (r:Nat),ms[k]? =some m->r∈m.cons->r < S.ng->S.fz<=r:=by
  intro k m r hk hr hlt;have:=aG.1 (aG.1 hev1 m (au hk)) r hr;simp only [bN,decide_eq_true_eq] at this;omega
 have hsay: ∀ (i:Nat) (o:Oper) (x:Operand) (r:Nat),ops[i]? =some o->eD o=false->x∈o.op.operands->r∈AJ (wF ops.toList (oU ops.toList) S SV i x)->(∀ j∈Ho ms r,j=i\/i∈(oU ops.toList).getD j [])/\(r < S.ng\/ ∃ c,D4 ms r=some c/\c∈(oU ops.toList).getD i []):=by
  intro i o x r hi hs hx hr;have hin:=(aU.1 hi).1;have:=aG.1 hev2 i (bO.2 (by simpa using hin));simp only [tl.2 hi,hs,cP] at this;have:=aG.1 this r (df.2 ⟨x,by simpa using hx,hr⟩);simp only [ax,bN,decide_eq_true_eq,aG,beq_iff_eq,bU] at this;refine⟨this.1,?_⟩;rcases this.2 with h | h
  ·exact .inl h
  ·right;split at h
   ·rename_i c hcm;exact⟨c,hcm,bU.1 h⟩
   ·cases h
 have GI: ∀ f,OU ops.toList (oU ops.toList) f=true-> ∀ (i j:Nat) (oi oj:Oper),ops[i]? =some oi->ops[j]? =some oj->eD oj=true->eD oi=false->i∉(oU ops.toList).getD j [] ->f i j oi oj=true:=by
  intro f hf i j oi oj hi hj hsj hsi hnb;have h1:=aG.1 hf j (bO.2 (by simpa using (aU.1 hj).1));simp only [tl.2 hj,hsj,bw,cP] at h1;have h2:=aG.1 h1 i (bO.2 (by simpa using (aU.1 hi).1));simp only [tl.2 hi,hsi,cP,bN,bU] at h2;exact h2.resolve_left hnb
 obtain⟨M,hM⟩: ∃ M,M=OU ops.toList (oU ops.toList) (IT (Qp P) ops.toList (oU ops.toList) S SV):=⟨_,rfl⟩
 have hloose:M=true-> ∀ (i j:Nat) (oi oj:Oper),ops[i]? =some oi->ops[j]? =some oj->eD oj=true->eD oi=false->i∉(oU ops.toList).getD j [] ->IT (Qp P) ops.toList (oU ops.toList) S SV i j oi oj=true:=
  fun h=>GI _ (by rw [<-hM]; exact h)
 have hlooseR:M=false-> ∀ (i j:Nat) (oi oj:Oper),ops[i]? =some oi->ops[j]? =some oj->eD oj=true->eD oi=false->i∉(oU ops.toList).getD j [] ->Hp ops.toList (oU ops.toList) S SV i oi=true:=by
  intro h;rw [<-hM,h,cP] at hev3;exact GI (fun i _ oi _=>Hp ops.toList (oU ops.toList) S SV i oi) hev3
 have told:=ang (S:=S) (ms:=ms) hgh hb hd
 have hboxP: ∀ (i:Nat) (o:Oper),ops[i]? =some o->eD o=false->kE o=false->(∀ x∈o.op.operands,tZ (fun n=>Nat.blt n (S.nb - jX ops.toList)) (wF ops.toList (oU ops.toList) S SV i x)=true)/\ ∀ d,o.dst=some d->tZ (fun n=>Nat.blt n (S.nb - jX ops.toList)) (SV.env d)=true:=by
  intro i o hi hs hb;have h1:=aG.1 hev4 i (bO.2 (by simpa using (aU.1 hi).1));simp only [tl.2 hi,hs,hb,cP,ax] at h1;refine⟨fun x hx=> ?_,fun d hd=> ?_⟩
  ·have h3:=aG.1 h1.1 x (by simpa using hx);simp only [ax] at h3;exact h3.1
  ·have h2:=h1.2;rw [hd] at h2;exact h2
 have hfreeP: ∀ (i:Nat) (o:Oper),ops[i]? =some o->eD o=false->kE o=false->OT o=true-> ∀ x∈o.op.operands,tZ (agx S ms) (wF ops.toList (oU ops.toList) S SV i x)=true:=by
  intro i o hi hs hb hfn x hx;have h1:=aG.1 hev4 i (bO.2 (by simpa using (aU.1 hi).1));simp only [tl.2 hi,hs,hb,cP,ax] at h1;have h3:=aG.1 h1.1 x (by simpa using hx);simp only [hfn,bw,cP,ax] at h3;exact h3.2
 have agreeV: ∀ (i:Nat) (o:Oper) (env:Nat->AV),ops[i]? =some o->(∀ (t:Nat) (j:Nat) (oj:Oper),j < i->ops.toList[j]? =some oj->eD oj=false->oj.dst=some t->env t=SV.env t)->(∀ t,(∀ (j:Nat) (oj:Oper),j < i->ops.toList[j]? =some oj->eD oj=false->oj.dst≠some t)->env t=S.env t)->
   ∀ t∈o.looksAt ops,env t=Qo ops.toList ((oU ops.toList).getD i []) S SV t:=by
  intro i o env ho g1 g2 t ht;have hin:=(aU.1 ho).1;unfold Qo;split
  ·rename_i hany;obtain⟨j,hj,hjd⟩:=cf.1 hany;cases hoj:ops.toList[j]? with
   | none=>rw [hoj] at hjd; simp at hjd
   | some oj=>
     rw [hoj] at hjd;have hdj:oj.dst=some t:=by simpa using hjd
     have hsj:eD oj=false:=by
      cases hx:eD oj with
      | false=>rfl
      | true=>rw [(ok.st j oj (tl.1 hoj) hx).1] at hdj; cases hdj
     exact g1 t j oj (ok.lt i j hin hj) hoj hsj hdj
  ·rename_i hany;refine g2 t (fun j oj hj hoj _ hdj=> ?_);rcases ok.look j i oj o t (tl.1 hoj) ho hdj ht with h | ⟨_,h | h⟩
   ·exact hany (cf.2 ⟨j,h,by rw [hoj]; simp [hdj]⟩)
   ·omega
   ·have:=ok.lt j i (aU.1 (tl.1 hoj)).1 h;omega
 have opdV: ∀ (i:Nat) (o:Oper) (X:St),ops[i]? =some o->(∀ t∈o.looksAt ops,X.env t=Qo ops.toList ((oU ops.toList).getD i []) S SV t)-> ∀ x∈o.op.operands,opd X x=wF ops.toList (oU ops.toList) S SV i x:=by
  intro i o X ho hX x hx;cases x with
  | tmp t=>exact hX t (b8 _ (c8.2 ⟨.tmp t,by simpa using hx,rfl⟩))
  | _=>rfl
 have hcons0: ∀ (j:Nat) (m:p6) (r:Nat),ms[j]? =some m->r∈m.cons->(∀ j'∈Ho ms r,j'=j\/j∈(oU ops.toList).getD j' [])/\(r < S.ng\/ ∃ c,D4 ms r=some c/\c∈(oU ops.toList).getD j []):=by
  intro j m r hj hr;have hjn:j < ops.size:=by rw [<-hlen]; exact (aj.1 hj).1
  have hoj:ops[j]? =some ops[j] :=bH hjn;cases hso:eD ops[j] with
  | true=>
    have:=(f6 j _ m (tl.2 hoj) hj hso).2;rw [this] at hr;cases hr
  | false=>
    obtain⟨env,b,m',g0,g1,g2,g3,g4,g5,g6,g7,g8⟩:=f3 j _ (tl.2 hoj) hso;rw [hj] at g0;simp only [af] at g0;subst g0;cases hbb:b with
    | false=>rw [(g7 hbb).2.1] at hr; cases hr
    | true=>
      cases hnn:sy ops[j] with
      | false=>
        have hcn:m.cons= [] :=by
         cases hxb:kE ops[j] with
         | true=>exact (g8 hxb).2.2.1
         | false=>
           obtain⟨_,_,_,hcn,_⟩:=g6 hbb hnn hxb;exact hcn
        rw [hcn] at hr;cases hr
      | true=>
        obtain⟨v,hst,_⟩:=g5 hbb hnn;obtain⟨x,hx,hrx⟩:=aje hst r hr;have hagr:=agreeV j _ env hoj g1 g2;rw [opdV j _ { S with env:=env,gh:=K2 S.gh (ms.take j),ng:=m.b } hoj hagr x hx] at hrx;exact hsay j _ x r hoj hso hx hrx
 have hcons: ∀ (j:Nat) (m:p6) (r:Nat),ms[j]? =some m->r∈m.cons->(r < S.ng\/ ∃ c,D4 ms r=some c/\c∈(oU ops.toList).getD j [])/\ ∀ j'∈Ho ms r,j'=j:=by
  intro j m r hj hr;obtain⟨q1,q2⟩:=hcons0 j m r hj hr;refine⟨q2,fun j' hj'=> ?_⟩;obtain⟨m',p1,p2⟩:=alP hj';have l1:j < ops.size:=by rw [<-hlen]; exact (aj.1 hj).1
  have l2:j' < ops.size:=by rw [<-hlen]; exact (aj.1 p1).1
  rcases q1 j' hj' with e | e
  ·exact e
  ·rcases (hcons0 j' m' r p1 p2).1 j (OY hj hr) with e' | e'
   ·exact e'.symm
   ·have:=ok.lt _ _ l1 e';have:=ok.lt _ _ l2 e;omega
 have heavy: ∀ (c:Nat) (m:p6) (o:Oper),ms[c]? =some m->ops[c]? =some o->(0 < m.adds.length\/ ∃ r,r∈m.cons)->eD o=false/\sy o=true:=by
  intro c m o hm ho hor;cases hs:eD o with
  | true=>
    obtain⟨e1,e2⟩:=f6 c o m (tl.2 ho) hm hs;rw [e1,e2] at hor;rcases hor with h | ⟨r,h⟩
    ·simp at h
    ·cases h
  | false=>
    refine⟨rfl,?_⟩;obtain⟨env,b,m',g0,g1,g2,g3,g4,g5,g6,g7,g8⟩:=f3 c o (tl.2 ho) hs;rw [hm] at g0;simp only [af] at g0;subst g0;cases hn:sy o with
    | true=>rfl
    | false=>
      exfalso
      have :m.adds= [] /\m.cons= [] :=by
       cases hb:b with
       | true=>
         cases hxb:kE o with
         | true=>exact⟨(g8 hxb).2.1,(g8 hxb).2.2.1⟩
         | false=>obtain⟨_,_,e1,e2,_⟩:=g6 hb hn hxb; exact⟨e1,e2⟩
       | false=>obtain⟨e1,e2,_⟩:=g7 hb; exact⟨e1,e2⟩
      rw [this.1,this.2] at hor;rcases hor with h | ⟨r,h⟩
      ·simp at h
      ·cases h
 have ghFull: ∀ L:Array Bool,(∀ i o,ops[i]? =some o->eD o=false->sy o=true->L.getD i false=true)->Wk S ms L=SV.gh:=by
  intro L hL;rw [f1];simp only
  funext r
  have tk:=told ms.length (aE _) r;rw [bg] at tk;unfold Wk;by_cases hr:r < S.ng
  ·rw [if_pos hr];by_cases htk:sG ms L r=true
   ·rw [if_pos htk];obtain⟨j,m',p1,p2,p3⟩:=rc.1 htk;exact ((tk.1 hr).2 j m' p1 (aj.1 p1).1 p3).symm
   ·rw [if_neg htk];refine ((tk.1 hr).1 (fun j m' p1 hjl p3=>htk (rc.2 ⟨j,m',p1,?_,p3⟩))).symm;have hjo:ops[j]? =some (ops[j]'(by omega)):=bH _;obtain⟨hns',hnw'⟩:=heavy j m' _ p1 hjo (.inr ⟨r,p3⟩);exact hL j _ hjo hns' hnw'
  ·rw [if_neg hr];cases hmk:D4 ms r with
   | none=>simp only; rw [tk.2.1 (by omega) hmk]
   | some c=>
     simp only;obtain⟨m,q1,q2,q3⟩:=(qE hd).1 hmk;have hcl:c < ms.length:=(aj.1 q1).1;have hco:ops[c]? =some (ops[c]'(by omega)):=bH _;obtain⟨hns,hnw⟩:=heavy c m _ q1 hco (.inl (by omega));rw [hL c _ hco hns hnw];have t3:=tk.2.2 c (by omega) hmk;by_cases htk:sG ms L r=true
     ·rw [htk];obtain⟨j,m',p1,p2,p3⟩:=rc.1 htk;obtain⟨c',p4,p5⟩:=(hcons j m' r p1 p3).1.resolve_left (by omega);rw [hmk] at p4;simp only [af] at p4;subst p4;have hjl:=(aj.1 p1).1;rw [t3.2.2 j m' p1 (ok.lt j c (by omega) p5) hjl p3];rfl
     ·have :sG ms L r=false:=by simpa using htk
      rw [this];simp only [dJ,dh,if_true];refine (t3.2.1 hcl (fun j m' p1 _ hjl p3=>htk (rc.2 ⟨j,m',p1,?_,p3⟩))).symm;have hjo:ops[j]? =some (ops[j]'(by omega)):=bH _;obtain⟨hns',hnw'⟩:=heavy j m' _ p1 hjo (.inr ⟨r,p3⟩);exact hL j _ hjo hns' hnw'
 have hSV: ∀ E:Nat->AV,({ SV with env:=E }:St)= { S with env:=E,gh:=SV.gh,ng:=SV.ng } :=by
  intro E;have b1:SV.bx=S.bx:=by rw [f1]
  have b2:SV.nb=S.nb:=by rw [f1]
  have b3:SV.fz=S.fz:=by rw [f1]
  have b4:SV.orc=S.orc:=by rw [f1]
  have b5:SV.nt=S.nt:=by rw [f1]
  show (⟨E,SV.bx,SV.gh,SV.nb,SV.ng,SV.fz,SV.orc,SV.nt⟩:St)=⟨E,S.bx,SV.gh,S.nb,SV.ng,S.fz,S.orc,S.nt⟩;rw [b1,b2,b3,b4,b5]
 have toN: ∀ {L:Array Bool},(∀ i o,ops[i]? =some o->eD o=false->BB o=true->L.getD i false=true)-> ∀ i o,ops[i]? =some o->eD o=false->sy o=true->L.getD i false=true:=
  fun hL i o h1 h2 h3=>hL i o h1 h2 (by unfold BB; rw [h3]; rfl)
 have boxNS: ∀ {o:Oper},kE o=true->eD o=false/\sy o=false:=by
  intro o hb;unfold kE at hb;split at hb
  ·rename_i t ht;unfold eD sy;rw [ht];exact⟨rfl,rfl⟩
  ·cases hb
 have full: ∀ L:Array Bool,(∀ i o,ops[i]? =some o->eD o=false->BB o=true->L.getD i false=true)->Tg ops S SV ms L= { SV with env:=ph ops S SV L } :=by
  intro L hL;rw [hSV];unfold Tg;rw [ghFull L (toN hL),fullB L (fun i o ho hb=>hL i o ho (boxNS hb).1 (by unfold BB; rw [hb,Bool.or_true]))]
 have envFull: ∀ L:Array Bool,(∀ i o,ops[i]? =some o->eD o=false->L.getD i false=true)->ph ops S SV L=SV.env:=by
  intro L hL
  funext t
  unfold ph;split
  ·rfl
  ·rename_i hn;refine (f2 t (fun o ho hs hdo=>hn ?_)).symm;obtain⟨i,hi,hio⟩:=aM ho;have hi':ops[i]? =some o:=tl.1 (by rw [<-hio]; exact ai hi);exact BD.2 ⟨i,o,hi',hL i o hi' hs,hdo⟩
 have none_left: ∀ (k:Nat) (Sm:St),(∀ i o,k<=i->ops[i]? =some o->eD o=false)->evS D P ops (ops.toList.drop k) Sm=some S'->Sm=S':=by
  intro k Sm hk he;rw [agY ops.toList.length k Sm (fun i o h1 _ h2=>hk i o h1 (tl.1 h2)),ch (by omega)] at he;simpa [evS] using he
 have fin: ∀ L a w,(∀ i,i < ops.size->L.getD i false=true)->Sim w0 W btI SI D P ops S SV S' ms M L a w->Q .normal a w:=by
  intro L a w hL hsim;have hall: ∀ i o,ops[i]? =some o->eD o=false->L.getD i false=true:=fun i o hi _=>hL i (aU.1 hi).1
  have leftS: ∀ (bt:Bt) (k:Nat) (Sm:St),(∀ i o,ops[i]? =some o->eD o=true->(L.getD i false=true↔i < k))->evS D P ops (ops.toList.drop k) Sm=some S'->Lv w0 W btI SI bt Sm a w->Q .normal a w:=by
   intro bt k Sm h2 h3 h4
   have:=none_left k Sm (fun i o hk hi=>by
    cases hx:eD o with
    | false=>rfl
    | true=>
      have:=(h2 i o hi hx).1 (hL i (aU.1 hi).1);omega) h3
   exact hK _ _ _ (this ▸ h4)
  rcases hsim with ⟨bt,h1,h2,_⟩ | ⟨bt,k,Sm,K,_,h2,h3,e1,_,_,h4,_⟩ | ⟨bt,k,Sm,h1,h2,h3,h4⟩
  ·rw [full L (fun i o hi hs _=>hall i o hi hs),envFull L hall] at h2
   have:=none_left 0 SV (fun i o _ hi=>by
    cases hx:eD o with
    | false=>rfl
    | true=>
      have:=h1 i o hi hx;rw [hL i (aU.1 hi).1] at this;cases this) hS
   exact hK _ _ _ (this ▸ h2)
  ·rw [envFull L hall,<-e1] at h4;exact leftS bt k Sm h2 h3 h4
  ·exact leftS bt k Sm h2 h3 h4
 have hbx: ∀ k cs,S.bx k=some cs-> ∀ c∈cs,∀ r∈AJ c,r < S.ng:=by
  intro k cs hk c hcm r hr;rcases bxOf k cs hk with ⟨_,hk'⟩ | ⟨_,_,zs,_,_,_,rfl⟩
  ·obtain⟨_,_,arr,e,_,hsz,hcell⟩:=h.inv.bx k cs hk';obtain⟨j,hj,hjc⟩:=aM hcm;obtain⟨u,_,hu,_⟩:=hcell j c (by rw [<-hjc]; exact ai hj);have:=apr hu r hr
   rwa [h.inv.ng,<-sng] at this
  ·obtain⟨x,_,rfl⟩:=aQ.1 hcm;rw [ank] at hr;cases hr
 have main: ∀ (fuel:Nat) (L:Array Bool) (rem:List Nat) (a:Act) (w:World),rem.length=fuel->rem.Nodup->(∀ i,i∈rem↔i < ops.size/\L.getD i false=false)->L.size=ops.size->
   (∀ j,j < ops.size->L.getD j false=true-> ∀ i∈(oU ops.toList).getD j [],L.getD i false=true)->Sim w0 W btI SI D P ops S SV S' ms M L a w->wpAny P .any ops Q fuel L a w:=by
  have flip: ∀ (L:Array Bool) (i:Nat),L.size=ops.size->i < ops.size->(L.getD i true=L.getD i false):=by
   intro L i h1 h2;simp only [bz];rw [bH (by omega)];rfl
  have nor: ∀ (L:Array Bool),L.size=ops.size->Region.ready .any ops L= [] -> ∀ i,i < ops.size->L.getD i false=true:=by
   intro L hsz hr i
   induction i using Nat.strongRecOn with
   | _ i ih=>
     intro hi;cases hx:L.getD i false with
     | true=>rfl
     | false=>
       have hm:i∈Region.ready .any ops L:=by
        rw [mem_ready];refine⟨by rw [flip L i hsz hi]; exact hx,ops[i],bH hi,fun e he hb=> ?_⟩;have:=ok.on i _ e (bH hi) he hb;exact ih _ this (by omega)
       rw [hr] at hm;cases hm
  intro fuel
  induction fuel with
  | zero=>
    intro L rem a w hl _ hrem hsz hcl hsim
    have hall: ∀ i,i < ops.size->L.getD i false=true:=by
     intro i hi;cases hx:L.getD i false with
     | true=>rfl
     | false=>
       have:=(hrem i).2 ⟨hi,hx⟩;rw [bC hl] at this;cases this
    refine⟨?_,fin L a w hall hsim⟩;cases hr:Region.ready .any ops L with
    | nil=>rfl
    | cons i rs=>
      have hm:i∈Region.ready .any ops L:=by rw [hr]; exact aN
      obtain⟨h1,o,h2,_⟩:=mem_ready.1 hm;have hi:=(aU.1 h2).1;rw [flip L i hsz hi,hall i hi] at h1;cases h1
  | succ fuel ih=>
    intro L rem a w hl hnd hrem hsz hcl hsim;refine⟨fun hr=>fin L a w (nor L hsz hr) hsim,fun i hi=> ?_⟩;obtain⟨hun,o,ho,hpre⟩:=mem_ready.1 hi;have hin:=(aU.1 ho).1;rw [flip L i hsz hin] at hun
    have hB: ∀ j∈(oU ops.toList).getD i [],L.getD j false=true:=by
     intro j hj;obtain⟨e,he,hb,hor⟩:=ok.edge i j o ho hj;have hl:=hpre e he hb;rcases hor with rfl | hor
     ·exact hl
     ·exact hcl e.on (Nat.lt_trans (ok.on i o e ho he hb) hin) hl j hor
    have hiL:i < L.size:=by omega
    have hset: ∀ j,(L.setIfInBounds i true).getD j false=if j=i then true else L.getD j false:=fun j=>Qx hiL
    have next: ∀ a' w',Sim w0 W btI SI D P ops S SV S' ms M (L.setIfInBounds i true) a' w'->wpAny P .any ops Q fuel (L.setIfInBounds i true) a' w':=by
     intro a' w' hs';refine ih (L.setIfInBounds i true) (rem.erase i) a' w' ?_ (hnd.erase i) (fun j=> ?_) (by simpa using hsz) (fun j hj hjt k hk=> ?_) hs'
     ·rw [List.length_erase_of_mem ((hrem i).2 ⟨hin,hun⟩),hl];rfl
     ·rw [hnd.mem_erase_iff,hrem j,hset j];by_cases hji:j=i
      ·subst hji;simp
      ·simp [hji]
     ·rw [hset] at hjt ⊢;split at hjt
      ·rename_i hji;subst hji;split
       ·rfl
       ·exact hB k hk
      ·split
       ·rfl
       ·exact hcl j hj hjt k hk
    unfold wpOp;rw [ho];simp only;cases hst:eD o with
    | true=>
      obtain⟨hdn,hgn⟩:=ok.st i o ho hst
      have hheavy: ∀ j oj,ops[j]? =some oj->eD oj=false->BB oj=true->L.getD j false=true:=by
       intro j oj hj hs hn
       have hji:j≠i:=by
        intro hji;subst hji;rw [ho] at hj;simp only [af] at hj;rw [<-hj,hst] at hs;cases hs
       rcases ok.late j i oj o hj ho hji hst (.inl hs) with h | h
       ·exact hB j h
       ·rw [hn] at h;cases h.2
      have hls: ∀ j oj,ops[j]? =some oj->eD oj=true->j < i->L.getD j false=true:=fun j oj hj hs hlt=>by
       rcases ok.late j i oj o hj ho (by omega) hst (.inr hlt) with h | h
       ·exact hB j h
       ·rw [hs] at h;cases h.1
      have hw:Region.wanted o (yielded ops a.tmps)=true:=by simp [Region.wanted,hgn]
      have stepS: ∀ (k:Nat) (Sm:St),(∀ i o,ops[i]? =some o->eD o=true->(L.getD i false=true↔i < k))->evS D P ops (ops.toList.drop k) Sm=some S'-> ∃ S1,one D P Sm o=some S1/\evS D P ops (ops.toList.drop (i+1)) S1=some S':=by
       intro k Sm h2 h3
       have hki:k<=i:=by
        cases cg i k with
        | inl hlt=>
          have:=(h2 i o ho hst).2 hlt;rw [hun] at this;cases this
        | inr h=>exact h
       have hskip:=agY (D:=D) (P:=P) (all:=ops) (ops:=ops) (i - k) k Sm (fun j oj h1 h2' h3'=>by
        cases hx:eD oj with
        | false=>rfl
        | true=>
          have:=(h2 j oj (tl.1 h3') hx).1 (hls j oj (tl.1 h3') hx (by omega));omega)
       rw [hskip,show k+(i - k)=i by omega,bR (by simpa using hin)] at h3
       have hoi:ops.toList[i]'(by simpa using hin)=o:=by
        have:=(aU.1 ho).2;simpa using this
       rw [hoi] at h3;simp only [evS,hst,if_true] at h3;split at h3
       ·simp only [ao] at h3;exact h3
       ·cases h3
      have iff': ∀ k,(∀ i o,ops[i]? =some o->eD o=true->(L.getD i false=true↔i < k))-> ∀ j oj,ops[j]? =some oj->eD oj=true->((L.setIfInBounds i true).getD j false=true↔j < i+1):=by
       intro k h2 j oj hj hs
       have hki:k<=i:=by
        cases cg i k with
        | inl hlt=>
          have:=(h2 i o ho hst).2 hlt;rw [hun] at this;cases this
        | inr h=>exact h
       rw [hset];split
       ·rename_i hji;simp [hji]
       ·rename_i hji;constructor
        ·intro hx;have:=(h2 j oj hj hs).1 hx;omega
        ·intro hx;exact hls j oj hj hs (by omega)
      by_cases hns: ∀ j oj,ops[j]? =some oj->eD oj=false->L.getD j false=true
      ·obtain⟨bt,k,Sm,h2,h3,h4⟩: ∃ bt k Sm,(∀ i o,ops[i]? =some o->eD o=true->(L.getD i false=true↔i < k))/\evS D P ops (ops.toList.drop k) Sm=some S'/\Lv w0 W btI SI bt Sm a w:=by
        rcases hsim with ⟨bt,h1,h2,_⟩ | ⟨bt,k,Sm,K,_,h2,h3,e1,_,_,h4,_⟩ | ⟨bt,k,Sm,_,h2,h3,h4⟩
        ·rw [full L hheavy,envFull L hns] at h2;exact⟨bt,0,SV,fun i o hi hs=>by rw [h1 i o hi hs]; simp,hS,h2⟩
        ·rw [envFull L hns,<-e1] at h4;exact⟨bt,k,Sm,h2,h3,h4⟩
        ·exact⟨bt,k,Sm,h2,h3,h4⟩
       obtain⟨S1,g1,g2⟩:=stepS k Sm h2 h3;rw [if_pos hw];refine .inl (Qu hD h4 (ok.ok i o ho) g1 (fun bt' a' w' h'=>next a' w' (.inr (.inr ⟨bt',i+1,S1,fun j oj hj hs=> ?_,iff' k h2,g2,h'⟩))));rw [hset];split
       ·rfl
       ·exact hns j oj hj hs
      ·obtain⟨jp,ojp,hjp,hsp,hup⟩: ∃ j oj,ops[j]? =some oj/\eD oj=false/\L.getD j false=false:=by
        apply Classical.byContradiction;intro hno;refine hns (fun j oj hj hs=> ?_);cases hx:L.getD j false with
        | true=>rfl
        | false=>exact absurd ⟨j,oj,hj,hs,hx⟩ hno
       obtain⟨bt,k,Sm,K,h2,h3,e1,e2,hmem,h4,hK1,hK2⟩: ∃ bt k Sm,∃ K:AV->AV,(∀ i o,ops[i]? =some o->eD o=true->(L.getD i false=true↔i < k))/\evS D P ops (ops.toList.drop k) Sm=some S'/\Sm.env=(fun t=>K (SV.env t))/\Sm.nt=S.nt/\
         (∀ i o t x n,ops[i]? =some o->o.op= .load t x->L.getD i false=false->jh Sm n (wF ops.toList (oU ops.toList) S SV i x)=jh SV n (wF ops.toList (oU ops.toList) S SV i x))/\Lv w0 W btI SI bt { Sm with env:=fun t=>K (ph ops S SV L t) } a w/\(M=true->K=idV)/\(∀ v,Yb v=true->K v=v):=by
        rcases hsim with ⟨bt,h1,h2,_⟩ | ⟨bt,k,Sm,K,_,h2,h3,e1,e2,hmem,h4,hK1,hK2,_⟩ | ⟨bt,k,Sm,h1,_⟩
        ·rw [full L hheavy] at h2;exact⟨bt,0,SV,idV,fun i o hi hs=>by rw [h1 i o hi hs]; simp,hS,rfl,by rw [f1],fun _ _ _ _ _ _ _ _=>rfl,h2,fun _=>rfl,fun _ _=>rfl⟩
        ·exact⟨bt,k,Sm,K,h2,h3,e1,e2,hmem,h4,hK1,hK2⟩
        ·have:=h1 jp ojp hjp hsp;rw [hup] at this;cases this
       obtain⟨S1,g1,g2⟩:=stepS k Sm h2 h3
       have hlook: ∀ t∈o.looksAt ops,ph ops S SV L t=SV.env t/\Qo ops.toList ((oU ops.toList).getD i []) S SV t=SV.env t:=by
        intro t ht;by_cases hex: ∃ (j:Nat) (oj:Oper),ops[j]? =some oj/\oj.dst=some t
        ·obtain⟨j,oj,hj,hdj⟩:=hex
         have hbj:j∈(oU ops.toList).getD i [] :=by
          rcases ok.look j i oj o t hj ho hdj ht with h | ⟨h,_⟩
          ·exact h
          ·rw [hst] at h;cases h
         refine⟨?_,?_⟩
         ·unfold ph;rw [if_pos (BD.2 ⟨j,oj,hj,hB j hbj,hdj⟩)]
         ·unfold Qo;rw [if_pos (cf.2 ⟨j,hbj,by rw [tl.2 hj]; simp [hdj]⟩)]
        ·have hno: ∀ o∈ops.toList,eD o=false->o.dst≠some t:=fun o' ho' _ hdo=>by
          obtain⟨j,hj,hjo⟩:=aM ho';exact hex ⟨j,o',tl.1 (by rw [<-hjo]; exact ai hj),hdo⟩
         have:=f2 t hno;refine⟨?_,?_⟩
         ·unfold ph;split
          ·rfl
          ·exact this.symm
         ·unfold Qo;split
          ·rfl
          ·exact this.symm
       have hopL: ∀ x∈o.op.operands,opd { Sm with env:=fun t=>K (ph ops S SV L t) } x=opd Sm x:=by
        intro x hx;cases x with
        | tmp t=>
          show K (ph ops S SV L t)=Sm.env t;rw [e1];exact congrArg K (hlook t (b8 _ (c8.2 ⟨.tmp t,by simpa using hx,rfl⟩))).1
        | _=>rfl
       have hopA:K=idV-> ∀ x∈o.op.operands,wF ops.toList (oU ops.toList) S SV i x=opd Sm x:=by
        intro hKi x hx;cases x with
        | tmp t=>
          show Qo ops.toList ((oU ops.toList).getD i []) S SV t=Sm.env t;rw [e1,hKi];exact (hlook t (b8 _ (c8.2 ⟨.tmp t,by simpa using hx,rfl⟩))).2
        | _=>rfl
       have pendB:M=true-> ∀ j oj,ops[j]? =some oj->eD oj=false->L.getD j false=false->IT (Qp P) ops.toList (oU ops.toList) S SV j i oj o=true:=by
        intro hMt j oj hj hs hu;refine hloose hMt j i oj o hj ho hst hs (fun hb=> ?_);rw [hB j hb] at hu;cases hu
       have pendR:M=false-> ∀ j oj,ops[j]? =some oj->eD oj=false->L.getD j false=false->Hp ops.toList (oU ops.toList) S SV j oj=true:=by
        intro hMf j oj hj hs hu;refine hlooseR hMf j i oj o hj ho hst hs (fun hb=> ?_);rw [hB j hb] at hu;cases hu
       obtain⟨t,xa,xv,hop⟩: ∃ t xa xv,o.op= .store t xa xv:=by
        unfold eD at hst;split at hst
        ·rename_i t xa xv hop;exact⟨t,xa,xv,hop⟩
        ·cases hst
       have hma:xa∈o.op.operands:=by rw [hop]; simp [Op.operands]
       have hmv:xv∈o.op.operands:=by rw [hop]; simp [Op.operands]
       have hstore:store P Sm t (opd Sm xa) (opd Sm xv)=some S1:=by
        unfold one at g1;rw [hdn] at g1;simp only [pO,hop,ao,ap] at g1;obtain⟨⟨v,S2⟩,⟨S3,g3,g4⟩,g5⟩:=g1;simp only [aq] at g4;simp only [St.put,af] at g5;rw [g3,g4.2,g5]
       have henv:ph ops S SV (L.setIfInBounds i true)=ph ops S SV L:=by
        funext t
        rw [K3 hiL ho,hdn];simp
       rw [if_pos hw]
       have hheavy': ∀ j oj,ops[j]? =some oj->eD oj=false->BB oj=true->(L.setIfInBounds i true).getD j false=true:=by
        intro j oj hj hs hn;rw [hset];split
        ·rfl
        ·exact hheavy j oj hj hs hn
       cases hMM:M with
       | true=>
         have hKi:=hK1 hMM;subst hKi
         have hsimp:ade (Qp P) t (opd Sm xa)=true:=by
          have:=pendB hMM jp ojp hjp hsp hup;unfold IT at this;rw [hop] at this;simp only [ax] at this;rw [<-hopA rfl xa hma];exact this.1
         obtain⟨q1,q2,q3,q4⟩:=aeh hsimp hstore
         have g1':one D P { Sm with env:=fun t=>idV (ph ops S SV L t) } o=some { S1 with env:=fun t=>idV (ph ops S SV L t) } :=by
          unfold one;rw [hdn];simp only [pO,hop];rw [hopL xa hma,hopL xv hmv,q3];rfl
         refine .inl (Qu hD h4 (ok.ok i o ho) g1' (fun bt' a' w' h'=>next a' w' (.inr (.inl ⟨bt',i+1,S1,idV,hheavy',iff' k h2,g2,q1.trans e1,q2.trans e2,fun j oj t' x n hj hl hu=> ?_,by rw [henv]; exact h',fun _=>rfl,fun _ _=>rfl,fun hf=>absurd (hMM.symm.trans hf) (by decide)⟩))));rw [hset] at hu;split at hu
         ·cases hu
         ·have hsj:eD oj=false:=by unfold eD; rw [hl]
          have hlb:=pendB hMM j oj hj hsj hu;unfold IT at hlb;rw [hop,hl] at hlb;simp only [ax] at hlb;rw [hopA rfl xa hma] at hlb;rw [q4 _ n hlb.2];exact hmem j oj t' x n hj hl hu
       | false=>
         obtain⟨K',k1,k2,k3,k4⟩:=abn hstore;have k4':store P { Sm with env:=fun t=>K (ph ops S SV L t) } t (opd Sm xa) (opd Sm xv)=some { S1 with env:=fun t=>K' (K (ph ops S SV L t)) } :=k4 (fun t=>K (ph ops S SV L t))
         have g1':one D P { Sm with env:=fun t=>K (ph ops S SV L t) } o=some { S1 with env:=fun t=>K' (K (ph ops S SV L t)) } :=by
          unfold one;rw [hdn];simp only [pO,hop];rw [hopL xa hma,hopL xv hmv,k4'];rfl
         refine .inl (Qu hD h4 (ok.ok i o ho) g1' (fun bt' a' w' h'=>next a' w' (.inr (.inl ⟨bt',i+1,S1,fun v=>K' (K v),hheavy',iff' k h2,g2,by rw [k2,e1],k3.trans e2,fun j oj t' x n hj hl hu=> ?_,by rw [henv]; exact h',fun hf=>absurd (hMM.symm.trans hf) (by decide),fun v hv=>by show K' (K v)=v; rw [hK2 v hv,k1 v hv],fun _ j oj hj hs hu=> ?_⟩))))
         ·rw [hset] at hu;split at hu
          ·cases hu
          ·have hsj:eD oj=false:=by unfold eD; rw [hl]
           have hlb:=pendR hMM j oj hj hsj hu;unfold Hp at hlb;rw [hl] at hlb;simp at hlb
         ·rw [hset] at hu;split at hu
          ·cases hu
          ·exact pendR hMM j oj hj hs hu
    | false=>
      obtain⟨env,b,m,g0,g1,g2,g3,g4,g5,g6,g7,gB⟩:=f3 i o (tl.2 ho) hst;have him:i < ms.length:=by rw [hlen]; exact hin
      have hagr:=agreeV i o env ho g1 g2
      have agree: ∀ t,t∈o.looksAt ops->ph ops S SV L t=env t:=by
       intro t ht;rw [hagr t ht];unfold Qo;split
       ·rename_i hany;obtain⟨j,hj,hjd⟩:=cf.1 hany;cases hoj:ops.toList[j]? with
        | none=>rw [hoj] at hjd; simp at hjd
        | some oj=>
          rw [hoj] at hjd;have hdj:oj.dst=some t:=by simpa using hjd
          unfold ph;rw [if_pos (BD.2 ⟨j,oj,tl.1 hoj,hB j hj,hdj⟩)]
       ·rename_i hany;unfold ph;split
        ·rename_i hdn;exfalso;obtain⟨j,oj,hj,hlj,hdj⟩:=BD.1 hdn;rcases ok.look j i oj o t hj ho hdj ht with h | ⟨_,h | h⟩
         ·exact hany (cf.2 ⟨j,h,by rw [tl.2 hj]; simp [hdj]⟩)
         ·rw [h,hun] at hlj;cases hlj
         ·have:=hcl j (aU.1 hj).1 hlj i h;rw [hun] at this;cases this
        ·rfl
      have hopX: ∀ x∈o.op.operands,opd { S with env:=env,gh:=K2 S.gh (ms.take i),ng:=m.b } x=wF ops.toList (oU ops.toList) S SV i x:=opdV i o _ ho hagr
      have hwantsX: ∀ X:St,X.env=ph ops S SV L->zd X ops o=some b:=by
       intro X hX;rw [<-g3];unfold zd;cases hg:o.guard with
       | none=>rfl
       | some gw=>
         obtain⟨j,want⟩:=gw;simp only;cases hdj: (ops[j]?).bind (·.dst) with
         | none=>rfl
         | some d=>
           simp only;rw [hX,agree d (cM _ (by simp [hg,hdj]))]
      have htree: ∀ r,(∀ j∈Ho ms r,j=i\/i∈(oU ops.toList).getD j [])/\(r < S.ng\/ ∃ c,D4 ms r=some c/\c∈(oU ops.toList).getD i [])->Wk S ms L r=K2 S.gh (ms.take i) r:=by
       intro r hr;obtain⟨htk,hr⟩:=hr;have tk:=told i (by omega) r
       have hnt:sG ms L r=false:=by
        cases hx:sG ms L r with
        | false=>rfl
        | true=>
          obtain⟨j,m',p1,p2,p3⟩:=rc.1 hx;rcases htk j (OY p1 p3) with e | e
          ·rw [e,hun] at p2;cases p2
          ·have:=hcl j (by rw [<-hlen]; exact (aj.1 p1).1) p2 i e;rw [hun] at this;cases this
       have hnot: ∀ (j:Nat) (m':p6),ms[j]? =some m'->j < i->r∉m'.cons:=by
        intro j m' p1 hji p3;rcases htk j (OY p1 p3) with e | e
        ·omega
        ·have:=ok.lt j i (by rw [<-hlen]; exact (aj.1 p1).1) e;omega
       unfold Wk;by_cases hlt:r < S.ng
       ·rw [if_pos hlt,hnt];exact ((tk.1 hlt).1 hnot).symm
       ·rw [if_neg hlt];rcases hr with hr | ⟨c,hmk,hcb⟩
        ·omega
        ·rw [hmk];simp only;have hci:=ok.lt i c hin hcb;rw [hB c hcb,hnt];simp only [dJ,dh,if_true];exact ((tk.2.2 c (by omega) hmk).2.1 hci (fun j m' p1 _ hji p3=>hnot j m' p1 hji p3)).symm
      have envNext: ∀ v,(∀ d,o.dst=some d->SV.env d=v)-> ∀ (X:St),X.env=ph ops S SV L->X.nt=S.nt->X.put o.dst v=some { X with env:=ph ops S SV (L.setIfInBounds i true) } :=by
       intro v hv X hX hXn;cases hdo:o.dst with
       | none=>
         simp only [St.put,af]
         have :ph ops S SV (L.setIfInBounds i true)=X.env:=by
          funext t
          rw [K3 hiL ho,hdo,hX];simp
         rw [this]
       | some d=>
         simp only [St.put];rw [if_pos (by rw [hXn]; exact g4 d hdo)]
         congr 2
         funext t
         rw [K3 hiL ho,hdo,hX];unfold gz;by_cases ht:t=d
         ·subst ht;simp [hv t hdo]
         ·have : ¬ (some d=some t):=by simpa using fun e=>ht e.symm
          rw [if_neg ht,if_neg this]
      by_cases hph: ∃ bt k Sm,∃ K:AV->AV,(∀ i o,ops[i]? =some o->eD o=false->BB o=true->L.getD i false=true)/\(∀ i o,ops[i]? =some o->eD o=true->(L.getD i false=true↔i < k))/\evS D P ops (ops.toList.drop k) Sm=some S'/\Sm.env=(fun t=>K (SV.env t))/\Sm.nt=S.nt/\
        (∀ i o t x n,ops[i]? =some o->o.op= .load t x->L.getD i false=false->jh Sm n (wF ops.toList (oU ops.toList) S SV i x)=jh SV n (wF ops.toList (oU ops.toList) S SV i x))/\Lv w0 W btI SI bt { Sm with env:=fun t=>K (ph ops S SV L t) } a w/\(M=true->K=idV)/\(∀ v,Yb v=true->K v=v)/\(M=false-> ∀ i oi,ops[i]? =some oi->eD oi=false->L.getD i false=false->Hp ops.toList (oU ops.toList) S SV i oi=true)
      ·obtain⟨bt,k,Sm,K,hv,h2s,h3,e1,e2,hmem,h4,hK1,hK2,hK3⟩:=hph
       have hhv:BB o=false:=by
        cases hx:BB o with
        | false=>rfl
        | true=>
          have:=hv i o ho hst hx;rw [hun] at this;cases this
       have hnn:sy o=false:=by
        unfold BB at hhv;simp only [Bool.or_eq_false_iff] at hhv;exact hhv.1
       have hbo:kE o=false:=by
        unfold BB at hhv;simp only [Bool.or_eq_false_iff] at hhv;exact hhv.2
       have hroot: ∀ x∈o.op.operands,K (wF ops.toList (oU ops.toList) S SV i x)=wF ops.toList (oU ops.toList) S SV i x:=by
        intro x hx;cases hMM:M with
        | true=>rw [hK1 hMM]
        | false=>
          have:=hK3 hMM i o ho hst hun;unfold Hp at this;simp only [ax] at this;exact hK2 _ (aG.1 this.1.2 x (by simpa using hx))
       have hrootD: ∀ d,o.dst=some d->K (SV.env d)=SV.env d:=by
        intro d hdd;cases hMM:M with
        | true=>rw [hK1 hMM]
        | false=>
          have:=hK3 hMM i o ho hst hun;unfold Hp at this;rw [hdd] at this;simp only [ax] at this;exact hK2 _ this.2
       have hwantsK:zd { Sm with env:=fun t=>K (ph ops S SV L t) } ops o=some b:=by
        cases hMM:M with
        | true=>
          have hKi:=hK1 hMM;subst hKi;exact hwantsX { Sm with env:=fun t=>idV (ph ops S SV L t) } rfl
        | false=>
          have:=hK3 hMM i o ho hst hun;unfold Hp at this;simp only [ax,dk] at this;rw [<-g3];unfold zd;rw [this.1.1.1]
       have hw:=wH h4.er hwantsK
       have HZ: ∀ v,(∀ d,o.dst=some d->SV.env d=v)->({ Sm with env:=fun t=>K (ph ops S SV L t) }:St).put o.dst v=some { Sm with env:=fun t=>K (ph ops S SV (L.setIfInBounds i true) t) } :=by
        intro v hv;cases hdo:o.dst with
        | none=>
          simp only [St.put,af]
          have :ph ops S SV (L.setIfInBounds i true)=ph ops S SV L:=by
           funext t
           rw [K3 hiL ho,hdo];simp
          rw [this]
        | some d=>
          simp only [St.put];rw [if_pos (by rw [show ({ Sm with env:=fun t=>K (ph ops S SV L t) }:St).nt=S.nt from e2]; exact g4 d hdo)]
          congr 2
          funext t
          rw [K3 hiL ho,hdo];unfold gz;by_cases ht:t=d
          ·subst ht;have h1:=hv t hdo;have h2:=hrootD t hdo;rw [if_pos rfl,if_pos rfl,h2,h1]
          ·have : ¬ (some d=some t):=by simpa using fun e=>ht e.symm
           rw [if_neg ht,if_neg this]
       have next2: ∀ a',Lv w0 W btI SI bt { Sm with env:=fun t=>K (ph ops S SV (L.setIfInBounds i true) t) } a' w->wpAny P .any ops Q fuel (L.setIfInBounds i true) a' w:=by
        intro a' h';refine next a' w (.inr (.inl ⟨bt,k,Sm,K,fun j oj hj hs hn=> ?_,fun j oj hj hs=> ?_,h3,e1,e2,fun j oj t' x n hj hl hu=> ?_,h',hK1,hK2,fun hf j oj hj hs hu=> ?_⟩))
        ·rw [hset];split
         ·rfl
         ·exact hv j oj hj hs hn
        ·rw [hset];split
         ·rename_i hji;subst hji;rw [ho] at hj;simp only [af] at hj;rw [<-hj,hst] at hs;cases hs
         ·exact h2s j oj hj hs
        ·rw [hset] at hu;split at hu
         ·cases hu
         ·exact hmem j oj t' x n hj hl hu
        ·rw [hset] at hu;split at hu
         ·cases hu
         ·exact hK3 hf j oj hj hs hu
       cases hbb:b with
       | true=>
         rw [hw,hbb,if_pos rfl];obtain⟨v,k1,k2,k3,k4⟩:=g6 hbb hnn hbo
         have k1':eI D P { Sm with env:=fun t=>K (ph ops S SV L t) } o=some v:=by
          rw [<-k1];refine Yr (ok.ok i o ho) hnn (fun x hx=> ?_) (fun t xa hta=> ?_)
          ·have h5:=hopX x hx;have h6:=hroot x hx;cases x with
           | tmp t=>
             have h7:=agree t (b8 _ (c8.2 ⟨.tmp t,by simpa using hx,rfl⟩));show K (ph ops S SV L t)=env t;rw [h7];have h5:env t=wF ops.toList (oU ops.toList) S SV i (.tmp t):=h5;rw [h5,h6]
           | _=>rfl
          ·have hxa:xa∈o.op.operands:=by rw [hta]; simp [Op.operands]
           rw [hopX xa hxa,GC,hmem i o t xa _ ho hta hun]
           have hal:Bg { S with env:=env,gh:=K2 S.gh (ms.take i),ng:=m.b } { ({ S with env:=env,gh:=K2 S.gh (ms.take i),ng:=m.b }:St) with gh:=SV.gh,ng:=SV.ng } (wF ops.toList (oU ops.toList) S SV i xa):=by
            intro r hr;have:=htree r (hsay i o xa r ho hst hxa hr);rw [ghFull L (toN hv)] at this;exact this
           rw [<-abl hal];have hS':=hSV env;rw [<-GC (S:=SV) env,hS']
         have hnf:OT o=false:=by
          cases hx:OT o with
          | false=>rfl
          | true=>
            unfold OT at hx;split at hx
            ·rename_i hop;simp [sy,hop] at hnn
            ·cases hx
         obtain⟨u,g8,g9⟩:=adh h4.inv h4.er (ok.ok i o ho) hnf k1';left;unfold Oper.wp;rw [g8,Oper.upon_value];exact next2 _ (h4.put g9 (HZ v k4))
       | false=>
         obtain⟨k2,k3,k4⟩:=g7 hbb;rw [hw,hbb,if_neg (by simp)];exact next2 _ (h4.put Yj (HZ (.tup []) k4))
      obtain⟨bt,h1,h2,hκ⟩: ∃ bt,(∀ i o,ops[i]? =some o->eD o=true->L.getD i false=false)/\Lv w0 W btI SI bt (Tg ops S SV ms L) a w/\ ∀ (p:gt) (c:Nat),S.ng<=p.r->D4 ms p.r=some c->L.getD c false=false->bt.κ p=0:=by
       rcases hsim with hsim | hsim | ⟨bt,k,Sm,h1,_⟩
       ·exact hsim
       ·exact absurd hsim hph
       ·have:=h1 i o ho hst;rw [hun] at this;cases this
      have hw:=wH h2.er (hwantsX (Tg ops S SV ms L) rfl)
      have halike: ∀ x∈o.op.operands,Bg { S with env:=env,gh:=K2 S.gh (ms.take i),ng:=m.b } { ({ S with env:=env,gh:=K2 S.gh (ms.take i),ng:=m.b }:St) with gh:=Wk S ms L,ng:=SV.ng } (opd { S with env:=env,gh:=K2 S.gh (ms.take i),ng:=m.b } x):=by
       intro x hx r hr;rw [hopX x hx] at hr;exact htree r (hsay i o x r ho hst hx hr)
      have hbxA: ∀ k,agx S ms k=true-> ∀ cs,({ S with env:=env,gh:=K2 S.gh (ms.take i),ng:=m.b }:St).bx k=some cs-> ∀ c∈cs,Bg { S with env:=env,gh:=K2 S.gh (ms.take i),ng:=m.b } { ({ S with env:=env,gh:=K2 S.gh (ms.take i),ng:=m.b }:St) with gh:=Wk S ms L,ng:=SV.ng } c:=by
       intro k hfk cs hk c hcm r hr;have hk:S.bx k=some cs:=hk;refine htree r ⟨fun j hj=> ?_, .inl (hbx k cs hk c hcm r hr)⟩;unfold agx at hfk;rw [hk] at hfk;have h3:=aG.1 (aG.1 hfk c hcm) r hr;rw [List.isEmpty_iff] at h3;rw [h3] at hj;cases hj
      have hops: ∀ x∈o.op.operands,opd (Tg ops S SV ms L) x=opd { ({ S with env:=env,gh:=K2 S.gh (ms.take i),ng:=m.b }:St) with gh:=Wk S ms L,ng:=SV.ng } x:=by
       intro x hx;cases x with
       | tmp t=>exact agree t (b8 _ (c8.2 ⟨.tmp t,by simpa using hx,rfl⟩))
       | _=>rfl
      have nostore: ∀ j oj,ops[j]? =some oj->eD oj=true->(L.setIfInBounds i true).getD j false=false:=by
       intro j oj hj hs;rw [hset];split
       ·rename_i hji;subst hji;rw [ho] at hj;simp only [af] at hj;rw [<-hj,hst] at hs;cases hs
       ·exact h1 j oj hj hs
      have ghNext: ∀ r,Wk S ms (L.setIfInBounds i true) r=if m.b<=r/\r < m.b+m.adds.length then m.adds[r - m.b]? else if m.cons.contains r then none else Wk S ms L r:=by
       intro r;by_cases hin':m.b<=r/\r < m.b+m.adds.length
       ·rw [if_pos hin'];have hmk:D4 ms r=some i:=(qE hd).2 ⟨m,g0,hin'⟩;unfold Wk;rw [if_neg (by have:=hb i m g0; omega),hmk];simp only [hset,if_true]
        have hnt:sG ms (L.setIfInBounds i true) r=false:=by
         cases hx:sG ms (L.setIfInBounds i true) r with
         | false=>rfl
         | true=>
           obtain⟨j,m',p1,p2,p3⟩:=rc.1 hx;obtain⟨c,q1,q2⟩:=(hcons j m' r p1 p3).1.resolve_left (by have:=hb i m g0; omega);rw [hmk] at q1;simp only [af] at q1;subst q1;have hjn:j < ops.size:=by rw [<-hlen]; exact (aj.1 p1).1
           rw [hset] at p2;split at p2
           ·rename_i hji;subst hji;have:=ok.lt j j hjn q2;omega
           ·have:=hcl j hjn p2 i q2;rw [hun] at this;cases this
        rw [hnt,g0];rfl
       ·rw [if_neg hin']
        have htk:sG ms (L.setIfInBounds i true) r=(sG ms L r||m.cons.contains r):=by
         rw [cb,bN,rc,rc];constructor
         ·rintro⟨j,m',p1,p2,p3⟩
          rw [hset] at p2;split at p2
          ·rename_i hji;subst hji;rw [g0] at p1;simp only [af] at p1;subst p1;exact .inr (by simpa using p3)
          ·exact .inl ⟨j,m',p1,p2,p3⟩
         ·rintro (⟨j,m',p1,p2,p3⟩ | hcon)
          ·exact⟨j,m',p1,by rw [hset]; split <;> first | rfl | exact p2,p3⟩
          ·exact⟨i,m,g0,by rw [hset,if_pos rfl],by simpa using hcon⟩
        unfold Wk;by_cases hlt:r < S.ng
        ·rw [if_pos hlt,if_pos hlt,htk];cases m.cons.contains r <;> cases sG ms L r <;> rfl
        ·rw [if_neg hlt,if_neg hlt];cases hmk:D4 ms r with
         | none=>simp
         | some c=>
           have hci:c≠i:=by
            intro he;subst he;obtain⟨m',q1,q2⟩:=(qE hd).1 hmk;rw [g0] at q1;simp only [af] at q1;subst q1;exact hin' q2
           simp only;rw [hset,if_neg hci];rw [htk];cases hcon:m.cons.contains r <;> simp
      have plain:m.adds= [] ->m.cons= [] ->Wk S ms (L.setIfInBounds i true)=Wk S ms L:=by
       intro e1 e2
       funext r
       rw [ghNext r,e1,e2];simp;intro h1 h2;omega
      have κNext: ∀ (bt2:Bt),(∀ p:gt,S.ng<=p.r->p.r < SV.ng-> ¬ (m.b<=p.r/\p.r < m.b+m.adds.length)->bt2.κ p=bt.κ p)-> ∀ (p:gt) (c:Nat),S.ng<=p.r->D4 ms p.r=some c->(L.setIfInBounds i true).getD c false=false->bt2.κ p=0:=by
       intro bt2 hbt p c hp hmk hun';rw [hset] at hun';split at hun'
       ·cases hun'
       ·rename_i hci;obtain⟨m',q1,q2⟩:=(qE hd).1 hmk;have:=hbN c m' q1
        rw [hbt p hp (by omega) (fun hr=>hci (by
         have:=(qE hd).2 ⟨m,g0,hr⟩;rw [hmk] at this;simpa using this))]
        exact hκ p c hp hmk hun'
      cases hbo:kE o with
      | true=>
        obtain⟨hbb,q2,q3,q4⟩:=gB hbo;obtain⟨t,zs,hop,hz,hbz⟩:=pr5 i o (tl.2 ho) hbo;have hbz:S.bx (Hs ops S i)=some (zs.map ofV):=hbz;rw [hw,hbb,if_pos rfl];left;obtain⟨lb1,lb2,lb3⟩:=lab i o ho hbo
        have hfree:Yx ops S L (Hs ops S i)=none:=by
         unfold Yx;rw [if_pos (xY.2 ⟨i,o,ho,hbo,hun,rfl⟩)]
        have toB: ∀ v,tZ (fun n=>Nat.blt n Sp.nb) v=true->tZ (QA S.nb (Hs ops S i)) v=true:=fun v hv=>Tf (fun n hn=>by
         have :n < Sp.nb:=aF hn;exact aei (by omega) (by omega)) v hv
        have henvB: ∀ t,tZ (QA S.nb (Hs ops S i)) (ph ops S SV L t)=true:=by
         intro t;unfold ph;split
         ·rename_i hdn;obtain⟨j,oj,hj,hlj,hdj⟩:=BD.1 hdn
          have hsj:eD oj=false:=by
           cases hx:eD oj with
           | false=>rfl
           | true=>rw [(ok.st j oj hj hx).1] at hdj; cases hdj
          cases hbj:kE oj with
          | true=>
            obtain⟨envj,bj,mj,_,_,_,_,_,_,_,_,gj⟩:=f3 j oj (tl.2 hj) hsj;have e:=(gj hbj).2.2.2 t hdj;rw [e];show QA S.nb (Hs ops S i) (Hs ops S j)=true;refine aei (lab j oj hj hbj).1 (fun he=> ?_);have:=labInj j i oj o hj ho hbj hbo he;subst this;rw [hun] at hlj;cases hlj
          | false=>
            refine Tf (fun n hn=> ?_) _ ((hboxP j oj hj hsj hbj).2 t hdj);have :n < S.nb - jX ops.toList:=aF hn;exact aei (by omega) (by omega)
         ·rw [sev];refine toB _ ?_;have:=(h.er.2 t).boxlt;rw [h.inv.nb] at this;exact this
        have hbxB: ∀ n cs,Yx ops S L n=some cs-> ∀ c∈cs,tZ (QA S.nb (Hs ops S i)) c=true:=by
         intro n cs hn c hc;unfold Yx at hn;split at hn
         ·cases hn
         ·rcases bxOf n cs hn with ⟨_,hk'⟩ | ⟨_,_,zs,_,_,_,rfl⟩
          ·obtain⟨_,_,arr,e,_,hsz,hcell⟩:=h.inv.bx n cs hk';obtain⟨j,hj,hjc⟩:=aM hc;obtain⟨u,_,hu,_⟩:=hcell j c (by rw [<-hjc]; exact ai hj);refine toB _ ?_;have:=hu.boxlt;rw [h.inv.nb] at this;exact this
          ·obtain⟨x,_,rfl⟩:=aQ.1 hc;exact anj _ _
        obtain⟨u,w',bt',r1,r2,r3,r4,r5,r6⟩:=abo h2.inv h2.er hz (m:=Hs ops S i) lb1 hfree henvB hbxB
        have hmm:zs.map ofV=zs.map XU:=by
         refine aO fun c hc=> ?_;obtain⟨i,z,_,_,rfl,hall⟩:=zf hz;have:=aG.1 hall c hc;unfold ofV;split
         ·simp [Value.oneCell'] at this
         ·rfl
        have hrun: (execOp a.eval o).run P w= .ok (.value u) w':=by
         obtain⟨dst,op,type,pos,after,guard⟩:=o;simp only at hop;subst hop;simp [execOp,r1]
        unfold Oper.wp;rw [hrun,Oper.upon_value]
        have hnext:gz (Yx ops S L) (Hs ops S i) (some (zs.map XU))=Yx ops S (L.setIfInBounds i true):=by
         funext n
         unfold gz;split
         ·rename_i he;subst he;unfold Yx;rw [if_neg,hbz,hmm];intro hwt;obtain⟨j,oj,hj,hbj,hlj,he⟩:=xY.1 hwt;have:=labInj j i oj o hj ho hbj hbo he;subst this;rw [hset,if_pos rfl] at hlj;cases hlj
         ·rename_i he;unfold Yx
          have :Yw ops S (L.setIfInBounds i true) n=Yw ops S L n:=by
           rw [cb,xY,xY];constructor
           ·rintro⟨j,oj,hj,hbj,hlj,hl⟩
            rw [hset] at hlj;split at hlj
            ·cases hlj
            ·exact⟨j,oj,hj,hbj,hlj,hl⟩
           ·rintro⟨j,oj,hj,hbj,hlj,hl⟩
            refine⟨j,oj,hj,hbj,?_,hl⟩;rw [hset,if_neg]
            ·exact hlj
            ·intro hji;subst hji;exact he hl.symm
          rw [this]
        have lv:Lv w0 W btI SI bt' { Tg ops S SV ms L with bx:=Yx ops S (L.setIfInBounds i true) } a w':=by
         refine⟨by rw [<-hnext]; exact r2,r3,h2.defers,h2.fz,h2.fzng,fun p hp=>by rw [r5,r6]; exact h2.keep p hp,h2.gone⟩
        refine next _ _ (.inl ⟨bt',nostore,?_,κNext bt' (fun _ _ _ _=>by rw [r6])⟩)
        have:=lv.put r4 (envNext (.ptrB (Hs ops S i) 0) (fun d hd=>q4 d hd) { Tg ops S SV ms L with bx:=Yx ops S (L.setIfInBounds i true) } rfl rfl);unfold Tg at this ⊢;rw [plain q2 q3];exact this
      | false=>
      have bxNext:Yx ops S (L.setIfInBounds i true)=Yx ops S L:=by
       funext n
       unfold Yx
       have :Yw ops S (L.setIfInBounds i true) n=Yw ops S L n:=by
        rw [cb,xY,xY];constructor
        ·rintro⟨j,oj,hj,hbj,hlj,hl⟩
         rw [hset] at hlj;split at hlj
         ·cases hlj
         ·exact⟨j,oj,hj,hbj,hlj,hl⟩
        ·rintro⟨j,oj,hj,hbj,hlj,hl⟩
         refine⟨j,oj,hj,hbj,?_,hl⟩;rw [hset,if_neg]
         ·exact hlj
         ·intro hji;subst hji;rw [ho] at hj;simp only [af] at hj;rw [<-hj,hbo] at hbj;cases hbj
       rw [this]
      have hbxF: ∀ n,Nat.blt n (S.nb - jX ops.toList)=true->Yx ops S L n=S.bx n:=fun n hn=>oldL L n (old n (aF hn));cases hbb:b with
      | true=>
        rw [hw,hbb,if_pos rfl];cases hnn:sy o with
        | false=>
          obtain⟨v,k1,k2,k3,k4⟩:=g6 hbb hnn hbo
          have k1':eI D P (Tg ops S SV ms L) o=some v:=by
           rw [<-k1,<-agR hnn halike];refine Yr (ok.ok i o ho) hnn hops (fun t xa hta=> ?_);have hxa:xa∈o.op.operands:=by rw [hta]; simp [Op.operands]
           have hbp:=(hboxP i o ho hst hbo).1 xa hxa;rw [<-hopX xa hxa] at hbp;have e1:=ajh (S:= { ({ S with env:=env,gh:=K2 S.gh (ms.take i),ng:=m.b }:St) with gh:=Wk S ms L,ng:=SV.ng }) (f:=Yx ops S L) hbxF (n:=P.cellsOf t) hbp;have e2:=GC (S:=Tg ops S SV ms L) env (P.cellsOf t) (opd { S with env:=env,gh:=K2 S.gh (ms.take i),ng:=m.b } xa);exact e2.symm.trans e1
          have hnf:OT o=false:=by
           cases hx:OT o with
           | false=>rfl
           | true=>
             unfold OT at hx;split at hx
             ·rename_i hop;simp [sy,hop] at hnn
             ·cases hx
          obtain⟨u,g8,g9⟩:=adh h2.inv h2.er (ok.ok i o ho) hnf k1';left;unfold Oper.wp;rw [g8,Oper.upon_value];refine next _ _ (.inl ⟨bt,nostore,?_,κNext bt (fun _ _ _ _=>rfl)⟩)
          have:=h2.put g9 (envNext v k4 (Tg ops S SV ms L) rfl rfl);unfold Tg at this ⊢;rw [plain k2 k3,bxNext];exact this
        | true=>
          obtain⟨v,k1,k4⟩:=g5 hbb hnn
          have k1':mp D P (Tg ops S SV ms L) o=some (v,m.adds,m.cons):=by
           rw [<-k1,<-agV (q:=agx S ms) (fun hfn x hx=>by rw [hopX x hx]; exact hfreeP i o ho hst hbo hfn x hx) halike hbxA];rw [<-agW (S:= { ({ S with env:=env,gh:=K2 S.gh (ms.take i),ng:=m.b }:St) with gh:=Wk S ms L,ng:=SV.ng }) (env:=ph ops S SV L) hops]
           exact anm (S:= { ({ ({ S with env:=env,gh:=K2 S.gh (ms.take i),ng:=m.b }:St) with gh:=Wk S ms L,ng:=SV.ng }:St) with env:=ph ops S SV L }) (f:=Yx ops S L) hbxF (fun x hx=>by
            have hbp:=(hboxP i o ho hst hbo).1 x hx;rw [<-hopX x hx] at hbp;have e:=hops x hx;cases x with
            | tmp t=>
              have e':ph ops S SV L t=env t:=e;show tZ _ (ph ops S SV L t)=true;rw [e'];exact hbp
            | _=>exact hbp)
          left;refine agP hD h2.inv h2.er h2.fzng (ok.ok i o ho) k1' (fun bt1 u w' l1 l2 l3=> ?_);have hbase:=hb i m g0;have htop:=hbN i m g0;obtain⟨mI,mV⟩:=kr.moved (N:=SV.ng) (b:=m.b) (k:=m.adds.length) h2.inv l2 l1.inv rfl rfl rfl htop (fun p hp1 hp2=>hκ p i (by omega) ((qE hd).2 ⟨m,g0,hp1,hp2⟩) hun)
          have hst2: ((Tg ops S SV ms L).make ⟨(Tg ops S SV ms L).ng,m.adds,m.cons⟩).moved SV.ng m.b m.adds.length= { Tg ops S SV ms L with gh:=Wk S ms (L.setIfInBounds i true) } :=by
           unfold St.moved St.make Tg;simp only
           congr 1
           funext r
           rw [ghNext r];by_cases hr:m.b<=r/\r < m.b+m.adds.length
           ·rw [if_pos hr,if_pos hr,if_pos (by omega)]
            congr 1
            omega
           ·rw [if_neg hr,if_neg hr];by_cases hrN:r < SV.ng
            ·rw [if_pos hrN,if_neg (by omega)]
            ·rw [if_neg hrN]
             have :Wk S ms L r=none:=by
              unfold Wk;rw [if_neg (by omega)];cases hmk:D4 ms r with
              | none=>rfl
              | some c=>
                obtain⟨m',q1,q2⟩:=(qE hd).1 hmk;have:=hbN c m' q1;omega
             rw [this];simp
          rw [hst2] at mI
          have hfzn:SI.fz<=S.ng:=by
           omega
          have lv:Lv w0 W btI SI (bt1.moved SV.ng m.b m.adds.length) { Tg ops S SV ms L with gh:=Wk S ms (L.setIfInBounds i true) } a w':=by
           refine⟨mI,⟨h2.er.1,fun t=>mV (h2.er.2 t) (l1.er.2 t)⟩,h2.defers,h2.fz,h2.fzng,fun p hp=> ?_,fun r hr hnone=> ?_⟩
           ·have hnr: ¬ (m.b<=p.r/\p.r < m.b+m.adds.length):=by omega
            have hk:=h2.keep p hp
            have hlt:p.r < bt.ng:=by
             have:=h2.inv.ng;have e: (Tg ops S SV ms L).ng=SV.ng:=rfl;omega
            simp only [Bt.moved];rw [if_neg hnr,if_neg hnr,l2.β p hlt,l2.κ p hlt];exact hk
           ·refine h2.gone r hr ?_;have hn':Wk S ms (L.setIfInBounds i true) r=none:=hnone;rw [ghNext r,if_neg (by omega)] at hn';split at hn'
            ·rename_i hcon;have:=hc i m r g0 (by simpa using hcon) (by omega);omega
            ·exact hn'
          have hv:VR w' (bt1.moved SV.ng m.b m.adds.length) (Be m.b v) u:=by
           have hng1:bt1.ng=SV.ng+m.adds.length:=l1.inv.ng
           have one: ∀ {x:AV} {y:Value},VR w' bt1 (C7 SV.ng x) y->VR w' (bt1.moved SV.ng m.b m.adds.length) (C7 m.b x) y:=by
            intro x y hxy;cases x with
            | own p sz lo len=>
              simp only [C7] at hxy ⊢;cases hxy with
              | own hp hcp hk ha=>
                have hp':p.r+SV.ng < bt1.ng:=hp;have hr:m.b<=p.r+m.b/\p.r+m.b < m.b+m.adds.length:=by omega
                have e1: (bt1.moved SV.ng m.b m.adds.length).κ ⟨p.r+m.b,p.l⟩=bt1.κ ⟨p.r+SV.ng,p.l⟩:=by
                 simp only [Bt.moved];rw [if_pos hr,cz,cD]
                have e2: (bt1.moved SV.ng m.b m.adds.length).β ⟨p.r+m.b,p.l⟩=bt1.β ⟨p.r+SV.ng,p.l⟩:=by
                 simp only [Bt.moved];rw [if_pos hr,cz,cD]
                exact .own (by show p.r+m.b < SV.ng; omega) hcp (by rw [e1]; exact hk) (by rw [e2]; exact ha)
            | sc x=>simp only [C7] at hxy ⊢; cases hxy with | sc h=>exact .sc h
            | _=>exact .dead _
           have two: ∀ {x:AV} {y:Value},VR w' bt1 (yT SV.ng x) y->VR w' (bt1.moved SV.ng m.b m.adds.length) (yT m.b x) y:=by
            intro x y hxy;cases x with
            | agg cs=>
              simp only [yT] at hxy ⊢;cases hxy with
              | agg hl' ho' hr=>
                refine .agg (by simpa using hl') ho' (fun k c u h1 h2=> ?_);rw [ar] at h1;simp only [ap] at h1;obtain⟨c',e1,rfl⟩:=h1;exact one (hr k (C7 SV.ng c') u (by rw [ar,e1]; rfl) h2)
            | _=>
              simp only [yT] at hxy ⊢;exact one hxy
           cases v with
           | tup vs=>
             simp only [Be] at l3 ⊢;have l3':VR w' bt1 (.tup (vs.map (yT SV.ng))) u:=l3;cases l3' with
             | tup hl' hr=>
               refine .tup (by simpa using hl') (fun k c u h1 h2=> ?_);rw [ar] at h1;simp only [ap] at h1;obtain⟨c',e1,rfl⟩:=h1;exact two (hr k (yT SV.ng c') u (by rw [ar,e1]; rfl) h2)
           | _=>
             simp only [Be] at l3 ⊢;exact two l3
          refine next _ _ (.inl ⟨bt1.moved SV.ng m.b m.adds.length,nostore,?_,κNext _ (fun p hp1 hp2 hp3=> ?_)⟩)
          ·have:=lv.put hv (envNext _ k4 { Tg ops S SV ms L with gh:=Wk S ms (L.setIfInBounds i true) } rfl rfl);unfold Tg at this ⊢;rw [bxNext];exact this
          ·simp only [Bt.moved];rw [if_neg hp3]
           exact l2.κ p (by
            have:=h2.inv.ng;have e: (Tg ops S SV ms L).ng=SV.ng:=rfl;omega)
      | false=>
        obtain⟨k2,k3,k4⟩:=g7 hbb;rw [hw,hbb,if_neg (by simp)];refine next _ _ (.inl ⟨bt,nostore,?_,κNext bt (fun _ _ _ _=>rfl)⟩)
        have:=h2.put Yj (envNext (.tup []) k4 (Tg ops S SV ms L) rfl rfl);unfold Tg at this ⊢;rw [plain k2 k3,bxNext];exact this
 have start:Sim w0 W btI SI D P ops S SV S' ms M (Array.replicate ops.size false) a { w with drawn:=w.drawn+1 } :=by
  have hno: ∀ i,(Array.replicate ops.size false).getD i false=false:=by
   intro i;rw [bz,Array.getElem?_replicate];split <;> rfl
  refine .inl ⟨({ bt with nb:=S.nb }:Bt).widen S.ng SV.ng,fun i o _ _=>hno i,?_,fun p c hp _ _=> ?_⟩
  ·have e1:ph ops S SV (Array.replicate ops.size false)=S.env:=by
    funext t
    unfold ph;rw [if_neg];intro hdn;obtain⟨i,o,hi,hl,_⟩:=BD.1 hdn;rw [hno] at hl;cases hl
   have e2:Wk S ms (Array.replicate ops.size false)=S.gh:=by
    funext r
    have hnt:sG ms (Array.replicate ops.size false) r=false:=by
     cases hx:sG ms (Array.replicate ops.size false) r with
     | false=>rfl
     | true=>
       obtain⟨j,m',p1,p2,p3⟩:=rc.1 hx;rw [hno] at p2;cases p2
    unfold Wk;rw [hnt];split
    ·rfl
    ·rename_i hr
     have :S.gh r=none:=by
      cases hx:S.gh r with
      | none=>rfl
      | some t=>exact absurd (hgh r t hx) hr
     rw [this];split
     ·rw [hno]; rfl
     ·rfl
   have e3:Yx ops S (Array.replicate ops.size false)=Sp.bx:=by
    funext n
    by_cases hn:n < Sp.nb
    ·rw [oldL _ n hn,pr3 n hn]
    ·have hsp:Sp.bx n=none:=by
      cases hx:Sp.bx n with
      | none=>rfl
      | some cs=>exact absurd (h.inv.bx n cs hx).1 hn
     rw [hsp];unfold Yx;split
     ·rfl
     ·rename_i hw;cases hx:S.bx n with
      | none=>rfl
      | some cs=>
        exfalso;rcases bxOf n cs hx with ⟨h1,_⟩ | ⟨k,o,_,q1,q2,q3,_⟩
        ·exact hn h1
        ·exact hw (xY.2 ⟨k,o,q1,q2,hno k,q3.symm⟩)
   have e4:Tg ops S SV ms (Array.replicate ops.size false)= { ({ Sp with nb:=S.nb }:St) with ng:=SV.ng } :=by
    unfold Tg;rw [e1,e2,e3]
    conv=>lhs; rw [pr1]
   rw [e4];have hw:=((h.widenB (N:=S.nb) (by omega)).widen (N:=SV.ng) (by show Sp.ng<=SV.ng; rw [<-sng]; exact fN)).drawn (w.drawn+1);rw [sng];exact hw
  ·simp only [Bt.widen];rw [if_neg (by omega)]
 refine wp_region_any hm (main ops.size _ (List.range ops.size) a _ (by simp) List.nodup_range (fun i=> ?_) (by simp) (fun j hj hjt=> ?_) start)
 ·simp only [bO];constructor
  ·intro hi;exact⟨hi,by simp [bz,hi]⟩
  ·exact fun h=>h.1
 ·simp [bz,hj] at hjt
end
end
section
open Go Go.RowKit
section
variable {P:Program} {w0 w w':World} {W:Nat->Prop} {btI bt bt':Bt} {SI S S':St} {a a':Act} {D:GA}
def yW (P:Program):Code->Bool
 | .skip=>true
 | .region _ ops false=>ops.toList.all (FW P)
 | .region _ ops true=>Tb P ops
 | .seq a b=>yW P a&&yW P b
 | .cond _ a b=>yW P a&&yW P b
 | .block _ c=>yW P c
 | .loop c=>yW P c
 | .exit _=>true
 | .ret=>true
 | _=>false
def X.out:X->Exit
 | .nor=> .normal
 | .ret=> .ret
 | .ext i=> .exit i
theorem akY {J:Nat->Prop} (h: ∃ n,J n): ∃ n,J n/\ ∀ m,J m->n<=m:=by
 obtain⟨n,hn⟩:=h
 induction n using Nat.strongRecOn with
 | _ n ih=>
   by_cases hx: ∃ m,m < n/\J m
   ·obtain⟨m,h1,h2⟩:=hx;exact ih m h1 h2
   ·exact⟨n,hn,fun m hm=>by
     cases cg m n with
     | inl h=>exact absurd ⟨m,h,hm⟩ hx
     | inr h=>exact h⟩
end
end
end Go.Proofs.YtkcgfceffffmoaaGreat.En
