/- Plain laws. -/
import Derived.Test.YtkghndikalnipacGreatZPEv
set_option linter.unusedSimpArgs false
set_option linter.unusedVariables false
namespace Go.Proofs.YtkghndikalnipacGreat.En
open Go
section
theorem tn{k n:Nat}(h:k<n): (k:Int).toNat<n:=h
theorem Vv(m:nq)(ho:m.objects.length<=1000)(hs:m.sessions.length<=1000):Tt (λy=>y.1=true->m.objects.length=3) (F2 m):=by
 have mo:m.objects.length<=maxLen:=by unfold maxLen;omega
 have ms:m.sessions.length<=maxLen:=by unfold maxLen;omega
 unfold F2;refine .bind (.count (B:=FY) (E:=Sum.elim (λy=>y.1.2=(false,())) λy=>y.2.1=((m.objects,m.sessions,()),())) m.objects.length (λk (_:Unit)=>(((),(k:Int),()),((m.objects,m.sessions,()),()),())) (λ_ _=>True) (λ_ _=> .end (DM _) (.ret rfl)) (λk _ hk _=> .go (DI.2 hk) (.ip (DH k) (.get (tn hk) λx _ _=> ?_))) () trivial) λy hy=> ?_
 ·rw[EM,ao,Ef];exact .br (λ_=> .ret ⟨(),by rw[BI mo hk],trivial⟩) λ_=> .ret rfl
 cases y with
 |inl y=>exact .ret (by rw[show y.1.2=_ from hy];nofun)
 |inr y=>
  show Tt _ ((JQ (((),0,()),y.2.1,())).bind _);rw[show y.2.1=_ from hy];refine .bind (.count (B:=FZ) (E:=Sum.elim (λy=>y.1.2=(false,())) λy=>y.2.1=((m.objects,m.sessions,()),())) m.sessions.length (λk (_:Unit)=>(((),(k:Int),()),((m.objects,m.sessions,()),()),())) (λ_ _=>True) (λ_ _=> .end (DM _) (.ret rfl)) (λk _ hk _=> .go (DI.2 hk) (.ip (DH k) (.get (tn hk) λx _ _=> ?_))) () trivial) λy hy=> ?_
  ·simp only[EM,ao,Ef]
   have hw: (k:Int)>0->IntKind.wrap .i64 ((k:Int)-1)=(k:Int)-1:=λh=>by unfold maxLen at ms;exact vN (by omega) (by omega)
   refine .br (λ_=> .br (λ_=> .br (λ_=> .br (λh=> ?_) λ_=> .ret ⟨(),by rw[BI ms hk],trivial⟩) λ_=> .ret rfl) λ_=> .ret rfl) λ_=> .ret rfl;have h:=of_decide_eq_true h;rw[hw h];exact .ip (by omega) (.get (by omega) λ_ _ _=> .br (λ_=> .ret rfl) λ_=> .ret ⟨(),by rw[BI ms hk],trivial⟩)
  cases y with
  |inl y=>exact .ret (by rw[show y.1.2=_ from hy];nofun)
  |inr y=>show Tt _ (some (((y.2.1.1.1.length:Int)==3),()));rw[show y.2.1=_ from hy];exact .ret λh=>by have : (m.objects.length:Int)=3:=eq_of_beq h;omega
theorem YR(m:nq)(c:Int)(hs:m.sessions.length<=1000):Tt (λy=>y.2.1=true-> ∃x∈m.sessions,x.client=c) (G8 m c):=by
 have ms:m.sessions.length<=maxLen:=by unfold maxLen;omega
 unfold G8;refine .bind (.count (B:=F3) (E:=Sum.elim (λy=> ∃x∈m.sessions,x.client=c) λ_=>True) m.sessions.length (λk (_:Unit)=>((c,(),(),(k:Int),()),((m.objects,m.sessions,()),(0,0,false,0,()),()),())) (λ_ _=>True) (λ_ _=> .end (DM _) (.ret trivial)) (λk _ hk _=> .go (DI.2 hk) (.ip (DH k) (.get (tn hk) λx _ hx=> .br (λe=> .ip (DH k) (.get (tn hk) λ_ _ _=> .ret ⟨x,hx,eq_of_beq e⟩)) λ_=> .ret ⟨(),by rw[BI ms hk],trivial⟩))) () trivial) λy hy=> ?_;cases y with
 |inl y=>exact .ret λ_=>hy
 |inr y=>exact .ret nofun
theorem VL(m:nq)(o:Op)(ho:m.objects.length<=1000)(hs:m.sessions.length<=900):Tt (λy=>y.1.sessions.length<=m.sessions.length+1/\y.1.objects.length=m.objects.length) (KI m o):=by
 obtain⟨⟨b,_⟩,v1,v2⟩:=Vv m ho (by omega);unfold KI
 have cp:Oe m=some (m,()):=by unfold Oe;simp only[bF];rw[B6 (by omega),B6 (by omega)]
 rw[cp,ao,v1,ao,Ef,Nl];refine .br (λe=> ?_) λ_=> .ret ⟨cK _,rfl⟩;have h3:=v2 e;rw[ao,Ef];refine .br (λeo=> .bind (YR m o.client (by omega)) λy hy=> ?_) λ_=> .ret ⟨cK _,rfl⟩;have hob:=WY (show EN o=some (true,()) by rw[Nl];rw[show Y7 o=true from eo]);have hle:=ZC m.sessions o.client;have hlt:y.2.1=true->MP m.sessions o.client<m.sessions.length:=λh=>ZD (hy h);have hw:IntKind.wrap .i64 (((MP m.sessions o.client:Nat):Int)+1)=((MP m.sessions o.client:Nat):Int)+1:=vN (by omega) (by omega);generalize hp:MP m.sessions o.client=p at hle hlt hw
 have ln: ∀ (k:Nat) (z:nr),k<=m.sessions.length+1->p<=k->(m.sessions.take p++ [z] ++(m.sessions.drop k).take (m.sessions.length-k)).length=p+1+(m.sessions.length-k):=λk z h1 h2=>by simp only[bJ,cP,co,cy];omega
 have g0:0<=(p:Int):=DH p;have g1: (p:Int)<=(m.sessions.length:Int):=Int.ofNat_le.2 hle;have g3:0<=(p:Int)+1:=by omega
 have g2:y.2.1=true->(p:Int)+1<=(m.sessions.length:Int):=λh=>by have:=hlt h;omega
 have l1: (m.sessions.take p).length<=900:=by rw[cP];omega
 extract_lets+lift j44 j45
 have h44:Tt (λy=>y.1.sessions.length<=m.sessions.length+1/\y.1.objects.length=m.objects.length) j44:=by
  unfold j44;refine .ip hob.1 (.get (by show o.object.toNat<_;omega) λx _ _=> .br (λ_=> .ip (by show 0<=o.object/\o.object< (m.objects.length:Int);omega) (.get (by show o.object.toNat<m.objects.length;omega) λ_ _ _=> ?_)) λ_=> .br (λ_=> .ip (by show 0<=o.object/\o.object< (m.objects.length:Int);omega) (.get (by show o.object.toNat<m.objects.length;omega) λ_ _ _=> ?_)) λ_=> ?_)
  all_goals
   show Tt _ ((L6 (((),(),(),(),y.2.1,(),0,()),((o.client,o.seq,o.kind,o.object,o.old,o.value,()),((),(),()),(false,0,()),((),(),()),(_,_,()),()),_,m.sessions,())).bind _);rw[ab5 _ _ _ _ _ _ (by omega),hp,ao];simp only[hw,bF,aP,cE,DG,show (0:Int).toNat=0 from rfl,D0,show ((p:Int)+1).toNat=p+1 from rfl];refine .ip ⟨g0,g1,cU _⟩ (.br (λe=> ?_) λ_=> ?_)
   ·have:=hlt e;refine .ip ⟨g3,g2 e,cU _⟩ (.ip ⟨cU _,g0,g1⟩ (.ip hle (.ip (by omega) (.ip (by rw[bJ,cy];omega) (.ip (by omega) (.ip (by rw[ln _ _ (by omega) (by omega)];omega) (.ret ⟨?_,by first |rfl|exact DL⟩)))))));show List.length _<=_;rw[ln _ _ (by omega) (by omega)];omega
   ·refine .ip ⟨cU _,g0,g1⟩ (.ip hle (.ip (by omega) (.ip (by rw[bJ,cy];omega) (.ip (by omega) (.ip (by rw[ln _ _ (by omega) (by omega)];omega) (.ret ⟨?_,by first |rfl|exact DL⟩))))));show List.length _<=_;rw[ln _ _ (by omega) (by omega)];omega
 have h45:Tt (λy=>y.1.sessions.length<=m.sessions.length+1/\y.1.objects.length=m.objects.length) j45:=.br (λ_=> .br (λ_=> .ret ⟨cK _,rfl⟩) λ_=>h44) λ_=>h44;exact .br (λ_=> .br (λ_=> .ret ⟨cK _,rfl⟩) λ_=>h45) λ_=>h45
theorem UO(l:List rk)(hl:l.length<=maxLen):Tt (λy=>y.1.objects.length<=3/\y.1.sessions.length<=16) (Ja l):=by obtain⟨b,b1,b2⟩:=Of hl;unfold Ja LV;rw[ao,b1,ao,Ef];refine .br (λe=> ?_) λ_=> .ret ⟨bM _,bM _⟩;have h16:=b2 e;refine .bind (.count (B:=K3) (E:=λy=>y.2.2.1.length<=3/\y.2.2.2.1.length<=16) l.length (λk (b:List Int×List nr)=>((l,(),(),(k:Int),()),(((),(),()),((),(),()),()),b.1,b.2,())) (λk b=>b.1.length<=3/\b.2.length<=k) (λb hb=> .end (DM _) (.ret ⟨hb.1,aX hb.2 h16⟩)) (λk b hk hb=> .go (DI.2 hk) (.ip (DH k) (.get (tn hk) λx _ _=> .bind (VL ⟨b.1,b.2⟩ x.op (aX hb.1 (by omega)) (aX hb.2 (by omega))) λy hy=> .ret ⟨(y.1.objects,y.1.sessions),by rw[BI hl hk],by rw[hy.2];exact hb.1,aX hy.1 (Nat.succ_le_succ hb.2)⟩))) ([0,0,0],[]) ⟨ay _,ay _⟩) λy hy=> .ret hy
theorem WZ(l:List rk)(i:Int)(hl:l.length<=maxLen):Tt T1 (KK l i):=by obtain⟨b,b1,b2⟩:=Of hl;unfold KK;rw[b1,ao,Ef];refine .br (λe=> ?_) λ_=> .ret trivial;have h16:=b2 e;rw[vN (n:=(l.length:Int)-1) (by omega) (by omega),EM,ao,Ef];refine .br (λh=> ?_) λ_=> .ret trivial;have h:=Eg.1 h;refine .ip (by omega) (.bind (UO _ ?_) λy hy=> .ip h.1 (.get (by omega) λx _ _=> .bind (VL _ _ (by omega) (by omega)) λz _=> .ret trivial));refine aX ?_ hl;rw[cP,co];omega
theorem Ps(s:qj)(h:EA 1048576 s)(hf:0<=s.first/\s.first<=16/\s.log.length<=16):Tt (λy=>y.1.length<=16) (EB s):=by
 unfold EB;rw[vN (n:=s.first+(s.log.length:Int)) (by omega) (by omega)];simp only[EM,ao,Ef];refine .br (λh1=> ?_) λ_=> .ret (bM _);have h1:=Eg.1 h1;refine .br (λ_=> .ret (bM _)) λ_=> ?_;rw[vN (n:=s.commit-s.first) (by omega) (by omega)]
 have hlen: ((s.log.drop (0:Int).toNat).take ((s.commit-s.first).toNat-(0:Int).toNat)).length<=16:=by rw[cP,co];omega
 refine .ip (by omega) ?_;rw[PO (by omega)];exact .ret hlen
theorem abN(m:nq)(i:Int)(ho:m.objects.length<=1000)(hs:m.sessions.length<=1000):Tt T1 (Kf m i):=by obtain⟨⟨b,_⟩,b1,b2⟩:=Vv m ho hs;unfold Kf;rw[b1,ao,Ef];refine .br (λe=> ?_) λ_=> .ret trivial;have h3:=b2 e;rw[EM,ao,Ef];refine .br (λh=> ?_) λ_=> .ret trivial;have h:=Eg.1 h;exact .ip h.1 (.get (by omega) λ_ _ _=> .ret trivial)
theorem UQ{s:qj}{id:Int}(h:EA 1048576 s)(hv:Eh s id=some (true,())):0<=s.first/\s.first<=16/\s.log.length<=16:=by obtain⟨h1,h2,h3,_⟩:=Gk h hv;exact⟨h1,h2,h3⟩
theorem abi(s:qj)(i:Int)(h:EA 1048576 s)(hf:0<=s.first/\s.first<=16/\s.log.length<=16):Tt T1 (Ml s i):=by unfold Ml;exact .bind (Ps s h hf) λy hy=> .bind (UO _ (by unfold maxLen;omega)) λz hz=> .bind (abN _ _ (by omega) (by omega)) λ_ _=> .ret trivial
theorem aaV(l:uL)(a b c:Int):Tt T1 (Kb l a b c):=by obtain⟨v,v1,_⟩:=MW l;unfold Kb;rw[v1,ao,EM,ao];exact .br (λ_=> .br (λ_=> .br (λ_=> .br (λ_=> .br (λ_=> .ret trivial) λ_=> .ret trivial) λ_=> .ret trivial) λ_=> .ret trivial) λ_=> .ret trivial) λ_=> .ret trivial
theorem XO(x:qg)(ok:Ez 1048576 x)(id:Int):Tt T1 (Ib x id):=by obtain⟨b,b1,_,b2⟩:=KW x ok id;unfold Ib;rw[b1,ao];refine .br (λe=> ?_) λ_=> .ret trivial;obtain⟨hv,h0,h5,_⟩:=b2 e;exact .srv ok (Es ok hv) ⟨h0,h5⟩ λs _ _ _=> .bind (aaV _ _ _ _) λ_ _=> .ret trivial
theorem Wi(x:qg)(ok:Ez 1048576 x)(id i:Int):Tt T1 (Lj x id i):=by obtain⟨n,n1,n2⟩:=SJ x ok id;unfold Lj;rw[n1,ao,Ef];refine .br (λe=> ?_) λ_=> .ret trivial;obtain⟨hv,h0,h5⟩:=n2 (eq_of_beq e);have vc:=Es ok hv;rw[EM,ao,Ef];refine .br (λ_=> .srv ok vc ⟨h0,h5⟩ λs _ s2 _=> ?_) λ_=> .ret trivial;obtain⟨b,b1,_⟩:=MQ s id s2;rw[b1,ao,Ef];refine .br (λ_=> .bind (XO x ok id) λy _=> ?_) λ_=> .ret trivial;rw[Ef];exact .br (λ_=> .srv ok vc ⟨h0,h5⟩ λs _ s2 s3=> .bind (abi s i s2 (UQ s2 s3)) λ_ _=> .ret trivial) λ_=> .ret trivial
end
section
def Kp(x y:qg):Prop:=Ez 1048576 y/\y.servers.length=x.servers.length
theorem Kp.self{x:qg}(ok:Ez 1048576 x):Kp x x:=⟨ok,rfl⟩
theorem Kp.trans{x y z:qg}(h:Kp x y)(k:Kp y z):Kp x z:=⟨k.1,k.2.trans h.2⟩
theorem Kp.srvs{x y:qg}(h:Kp x y){S:List qj}(hl:S.length=y.servers.length)(hs: ∀s∈S,EA 1048576 s):Kp x ⟨y.now,S,y.sides,y.master,y.masterUp,y.lease,y.places⟩:=
 ⟨⟨⟨by rw[hl];exact h.1.1.1,hs⟩,h.1.2⟩,hl.trans h.2⟩
theorem Kp.set{x y:qg}(h:Kp x y){s:qj}(hs:EA 1048576 s)(i:Nat):Kp x ⟨y.now,y.servers.set i s,y.sides,y.master,y.masterUp,y.lease,y.places⟩:=
 h.srvs DL (Qy h.1.1 hs i).2
theorem Tt.at{α:Type}{Q:α->Prop}{l:List qj}(h5:l.length=5){a:Int}(ha:0<=a/\a<5){k:qj->Option α}(h: ∀s,l[a.toNat]? =some s->s∈l->Tt Q (k s)):Tt Q (iteP (0<=a/\a< (l.length:Int)) ((l[a.toNat]?).bind k) none):=
 .ip (by rw[h5];exact ha) (.get (by omega) h)
theorem aaT(x:qg)(ok:Ez 1048576 x)(id:Int):Tt T1 (Jt x id):=by obtain⟨b,b1,_,b2⟩:=KW x ok id;unfold Jt;rw[b1,ao,Ef];refine .br (λe=> ?_) λ_=> .ret trivial;obtain⟨hv,h0,h5,_⟩:=b2 e;have vc:=Es ok hv;refine .srv ok vc ⟨h0,h5⟩ λs _ s2 _=> .bind (MC _ (Ei s2.1)) λy hy=> .bind (.count (B:=JC) (E:=λ_=>True) y.1.length (λk (b:Int)=>(((),b,(),(k:Int),()),(fx x,()),y.1,())) (λ_ _=>True) (λ_ _=> .end (DM _) (.ret trivial)) (λk b hk _=> .go (DI.2 hk) (.ip ⟨DH k,DI.2 hk⟩ (.get (tn hk) λz _ hz=> .srv ok vc (hy.2 z hz) λt _ _ _=> .ret ⟨_,by rw[BI (by have:=hy.1;unfold maxLen;omega) hk],trivial⟩))) 2 trivial) λ_ _=> .ret trivial
theorem Za(x:qg)(ok:Ez 1048576 x)(id:Int)(o:Op):Tt (λy=>Kp x y.1/\(y.2.1=0->y.1.servers.length=5/\0<=id/\id<5)) (FN x id o):=by
 obtain⟨v,v1,_⟩:=Fp x ok;unfold FN;rw[(EL x ok).1,ao,v1,ao,Ef];have bad: ∀n:Int,n≠0->Tt (λy:qg×Int×Unit=>Kp x y.1/\(y.2.1=0->y.1.servers.length=5/\0<=id/\id<5)) (some (x,n,())):=λn hn=> .ret ⟨.self ok,λh=>absurd h hn⟩;refine .br (λe=> ?_) λ_=>bad 1 (by decide);subst e;have vc:=Es ok v1;rw[EM,ao,Ef];refine .br (λh=> ?_) λ_=>bad 1 (by decide);have h:=Eg.1 h;have hid:0<=id/\id<5:=by omega
 rw[Nl,ao,Ef];refine .br (λ_=> .srv ok vc hid λs s1 s2 s3=> ?_) λ_=>bad 1 (by decide);rw[Ef];refine .br (λ_=> ?_) λ_=>bad 2 (by decide);obtain⟨b,b1,_⟩:=MQ s id s2;rw[b1,ao,Ef];refine .br (λ_=> .bind (ZV s.log _ _ (Ep s2.2.1)) λy hy=> ?_) λ_=>bad 3 (by decide);have good: ∀n:Int,Tt (λy:qg×Int×Unit=>Kp x y.1/\(y.2.1=0->y.1.servers.length=5/\0<=id/\id<5)) (some (x,n,())):=λn=> .ret ⟨.self ok,λ_=>⟨vc.len,hid⟩⟩
 extract_lets+lift j17 j18
 have h17:Tt (λy=>Kp x y.1/\(y.2.1=0->y.1.servers.length=5/\0<=id/\id<5)) j17:=by
  unfold j17;refine .at vc.len hid λs' e' hs'=> ?_;show Tt _ ((x.servers[id.toNat]?).bind _);rw[e',ao];have hs:=ok.1.2 s' hs';have hs3:=hs.2.1;obtain rfl:s'=s:=by rw[s1] at e';exact (Option.some.inj e').symm
  have hl:=(UQ s2 s3).2.2;refine .ip rfl ?_;have e1: ∀X Y:Option (qg×Int×Unit),iteP (s'.log.length<s'.log.length) X Y=Y:=λX Y=>by rw[B3,if_neg (dA _)]
  rw[e1]
  have hl2: (s'.log.take s'.log.length++([(⟨s'.epoch,o⟩:rk)]:List rk)).length<=17:=by rw[bJ,cP,cy];omega
  refine .ip (by omega) (.ip (by show 0<=id/\id< (x.servers.length:Int);rw[vc.len];exact hid) (.ip rfl (.ret ⟨(Kp.self ok).set (s:=⟨s'.up,s'.intact,s'.version,s'.epoch,s'.config,s'.first,s'.log.take s'.log.length++ [⟨s'.epoch,o⟩],s'.commit,s'.learned⟩) ⟨hs.1,aX hl2 (by omega),hs.2.2⟩ _,λ_=>⟨by show (x.servers.set _ _).length=5;rw[DL];exact vc.len,hid⟩⟩)))
 have h18:Tt (λy=>Kp x y.1/\(y.2.1=0->y.1.servers.length=5/\0<=id/\id<5)) j18:=by unfold j18;refine .bind (UO s.log (Ep s2.2.1)) λm hm=> .bind (VL m.1 o (by omega) (by omega)) λz _=> ?_;rw[Ef];refine .br (λ_=> .bind (Q:=T1) (by unfold HS;exact .ret trivial) λw _=> ?_) λ_=>good 11;exact .br (λ_=> .bind (aaT x ok id) λ_ _=> .br (λ_=>good 6) λ_=> .br (λ_=>good 5) λ_=>h17) λ_=> .br (λ_=>good 5) λ_=>h17
 refine .br (λh=> .ip (of_decide_eq_true h) (.get ?_ λe _ _=> ?_)) λ_=> .br (λ_=>good 0) λ_=>h18
 ·have h:=of_decide_eq_true h;omega
 ·rw[Ef];exact .br (λ_=> .br (λ_=>good 0) λ_=>h18) λ_=>good 11
theorem abM(x:qg)(ok:Ez 1048576 x)(id m:Int):Tt (λy=>Kp x y.1/\(y.2.1=true->0<=m/\m<5)) (Gf x id m):=by
 obtain⟨b,b1,_,b2⟩:=KW x ok id;have bad:Tt (λy:qg×Bool×Unit=>Kp x y.1/\(y.2.1=true->0<=m/\m<5)) (some (x,false,())):=.ret ⟨.self ok,nofun⟩;unfold Gf;rw[(EL x ok).1,ao,b1,ao,Ef];refine .br (λe=> ?_) λ_=>bad;obtain⟨hv,h0,h5,hp⟩:=b2 e;have vc:=Es ok hv;refine .srv ok vc ⟨h0,h5⟩ λs s1 s2 s3=> .bind (MC _ (Ei s2.1)) λy hy=> ?_;rw[(EG y.1 m (by have:=hy.1;unfold maxLen;omega)).1,ao,Ef];refine .br (λhm=> ?_) λ_=>bad;have hm:=hy.2 m (of_decide_eq_true hm);refine .bind (XY ok vc ⟨h0,h5⟩ hm) λz _=> ?_;rw[Ef];refine .br (λ_=> .srv ok vc ⟨h0,h5⟩ λt t1 t2 t3=> .srv ok vc ⟨h0,h5⟩ λu _ u2 _=> ?_) λ_=>bad;obtain⟨n,n1,_⟩:=KX u.config m (Ei u2.1);rw[n1,ao];have five: ∀ (i:Nat) (s:qj),(x.servers.set i s).length=5:=λi s=>by rw[DL];exact vc.len
 refine .br (λ_=> ?_) λ_=> ?_
 ·rw[SH t.log t2.2.1 (Gk t2 t3).2.2.2.2.2.1,ao];refine .ip (by show 0<=m/\m< (x.servers.length:Int);rw[vc.len];exact hm) (.at vc.len hm λw _ hw=> ?_);have hw:=ok.1.2 w hw;refine .get (by rw[five];omega) λw' _ hw'=> .ret ⟨.srvs (.self ok) (by rw[DL,DL]) λs hs=> ?_,λ_=>hm⟩;have all:=(Qy ok.1 (s:=⟨w.up,w.intact,w.version,w.epoch,w.config,((cutAt t.log:Nat):Int),w.log,w.commit,w.learned⟩) hw m.toNat)
  have hw':=all.2 w' hw';exact (Qy all (s:=⟨w'.up,w'.intact,w'.version,w'.epoch,w'.config,w'.first,t.log.drop (cutAt t.log),w'.commit,w'.learned⟩) ⟨hw'.1,by show List.length _<=_;rw[co];have:=t2.2.1;omega,hw'.2.2⟩ m.toNat).2 s hs
 ·rw[PO t2.2.1,ao];exact .at vc.len hm λw _ hw=> .ret ⟨(Kp.self ok).set (s:=⟨w.up,w.intact,w.version,w.epoch,w.config,w.first,t.log,w.commit,w.learned⟩) ⟨(ok.1.2 w hw).1,t2.2.1,(ok.1.2 w hw).2.2⟩ _,λ_=>hm⟩
theorem WC{l:List qj}(h:l.length=5/\ ∀s∈l,EA 1048576 s){s:qj}(hs:EA 1048576 s)(i:Nat): (l.set i s).length=5/\ ∀t∈l.set i s,EA 1048576 t:=⟨by rw[DL];exact h.1,λt ht=>(cX ht).elim (h.2 t) λe=>e ▸ hs⟩
abbrev fz:Int×Unit×Unit×Unit×Int×Int×Int×Int×Int×Unit×Unit:=(0,(),(),(),0,0,0,0,0,(),())
abbrev fc(x:qg):Int×Unit×Unit×Unit×Int×Int×Int×Int×Int×Unit×Unit:=(x.now,(),(),(),x.master.activated,x.masterUp,x.lease.epoch,x.lease.holder,x.lease.ends,(),())
theorem WG(x:qg)(ok:Ez 1048576 x)(id:Int):Tt (λy=>Kp x y.1) (Gn x id):=by
 obtain⟨b,b1,_,b2⟩:=KW x ok id;unfold Gn;rw[(EL x ok).1,ao,b1,ao,Ef];refine .br (λe=> ?_) λ_=> .ret (.self ok);obtain⟨hv,h0,h5,hp⟩:=b2 e;have vc:=Es ok hv;refine .srv ok vc ⟨h0,h5⟩ λs s1 s2 s3=> .bind (MC _ (Ei s2.1)) λy hy=> ?_;have hl:y.1.length<=maxLen:=by have:=hy.1;unfold maxLen;omega
 refine .bind (.count (B:=HE) (E:=λe=> ∃ (c:qg) (a:Bool),Kp x c/\e=((id,(),(),(),a,()),(fz,fc c,()),y.1,c.servers,c.sides,c.master.configs,c.places,())) y.1.length (λk (b:qg×Bool)=>((id,(),(),(),b.2,(k:Int),()),(fz,fc b.1,()),y.1,b.1.servers,b.1.sides,b.1.master.configs,b.1.places,())) (λ_ b=>Kp x b.1) (λb hb=> .end (DM _) (.ret ⟨b.1,b.2,hb,rfl⟩)) (λk b hk hb=> .go (DI.2 hk) (.ip ⟨DH k,DI.2 hk⟩ (.get (tn hk) λz _ hz=> .bind (abM b.1 hb.1 id z) λw hw=> .br (λ_=> .ret ⟨(w.1,w.2.1),by rw[BI hl hk],hb.trans hw.1⟩) λ_=> .ret ⟨(w.1,false),by rw[BI hl hk],hb.trans hw.1⟩))) (x,true) (.self ok)) ?_
 rintro _ ⟨c,a,hc,rfl⟩
 refine .bind (.count (B:=Hj) (E:=λe=> ∃ (c:qg) (a:Bool),Kp x c/\e=(((),(),a,()),(fz,fc c,()),c.servers,c.sides,c.master.configs,c.places,())) y.1.length (λk (b:List qj)=>((id,(),(),(),a,(k:Int),()),(fz,fc c,()),y.1,b,c.sides,c.master.configs,c.places,())) (λ_ b=>b.length=5/\ ∀s∈b,EA 1048576 s) (λb hb=> .end (DM _) (.ret ⟨⟨c.now,b,c.sides,c.master,c.masterUp,c.lease,c.places⟩,a,hc.srvs (by rw[hb.1,hc.2,vc.len]) hb.2,rfl⟩)) (λk b hk hb=> .go (DI.2 hk) (.br (λ_=> .ip ⟨DH k,DI.2 hk⟩ (.get (tn hk) λz _ hz=> .at hb.1 ⟨h0,h5⟩ λp _ _=> .at hb.1 (hy.2 z hz) λq _ hq=> .ret ⟨b.set z.toNat ⟨q.up,q.intact,q.version,q.epoch,q.config,q.first,q.log,((p.log.length:Nat):Int),q.learned⟩,by rw[BI hl hk],WC hb (s:=⟨q.up,q.intact,q.version,q.epoch,q.config,q.first,q.log,((p.log.length:Nat):Int),q.learned⟩) (hb.2 q hq) _⟩)) λ_=> .ret ⟨⟨c.now,b,c.sides,c.master,c.masterUp,c.lease,c.places⟩,a,hc.srvs (by rw[hb.1,hc.2,vc.len]) hb.2,rfl⟩)) c.servers ⟨hc.2.trans vc.len,hc.1.1.2⟩) ?_
 rintro _ ⟨d,a',hd,rfl⟩
 exact .ret hd
theorem Zd(x:qg)(ok:Ez 1048576 x)(id:Int)(o:Op):Tt (λy=>Kp x y.1) (JL x id o):=by
 unfold JL;refine .bind (Za x ok id o) λy hy=> ?_;rw[Ef];refine .br (λe=> ?_) λ_=> .ret hy.1;obtain⟨h5,hid⟩:=hy.2 (eq_of_beq e)
 have same: ∀ {α:Type} {Q:α->Prop} {l:List qj} {k:qj->qj->Option α},l.length=5->(∀s∈l,EA 1048576 s)->(∀s,EA 1048576 s->Tt Q (k s s))->Tt Q (iteP (0<=id/\id< (l.length:Int)) ((l[id.toNat]?).bind λa=>(l[id.toNat]?).bind λb=>k a b) none):=λh5 hs h=> .at h5 hid λs e1 e2=>by rw[e1,ao];exact h s (hs s e2)
 have Ax: ∀s:qj,(s.log.drop 0).take s.log.length=s.log:=λs=>by rw[cE,DP]
 refine same h5 hy.1.1.1.2 λs hs=> .ip (by omega) ?_;rw[Ax];refine .bind (ZV _ _ _ (Ep hs.2.1)) λi _=> .at h5 hid λt _ _=> .br (λ_=> .bind (WG y.1 hy.1.1 id) λz hz=> ?_) λ_=>same h5 hy.1.1.1.2 λs hs=> .ip (by omega) ?_
 ·rw[Ef];refine .br (λ_=>same (hz.2.trans h5) hz.1.1.2 λs hs=> .ip (by omega) ?_) λ_=> .ret (hy.1.trans hz);rw[Ax];exact .bind (WZ _ _ (Ep hs.2.1)) λ_ _=> .ret (hy.1.trans hz)
 ·rw[Ax];exact .bind (WZ _ _ (Ep hs.2.1)) λ_ _=> .ret hy.1
end
section
theorem LK(x:qg)(ok:Ez 1048576 x):Tt (λy=>y.1=true->VC x) (Ee x):=by obtain⟨v,v1,_⟩:=Fp x ok;exact⟨(v,()),v1,λe=>Es ok (by rw[v1,show v=true from e])⟩
theorem TZ(x:qg)(ok:Ez 1048576 x)(e:Int): ∃c b,Fz x.master e=some (c,b,())/\FX maxLen c/\(VC x->c.replicas.length<=5/\c.witnesses.length<=5/\(∀z∈c.replicas,0<=z/\z<5)/\(∀z∈c.witnesses,0<=z/\z<5)/\(b=true->Ek c=some (true,())/\0<=c.primary/\c.primary<5)/\NQ c.replicas):=by
 obtain⟨c,b,h1,_,h2⟩:=Mc x.master e ok.2.2.1;refine⟨c,b,h1,h2,λvc=> ?_⟩;obtain⟨c',b',g1,_,g2,_,g3,g4⟩:=H6 x.master e ok.2.2.1 vc.ml;rw[h1] at g1;obtain⟨rfl,rfl⟩:c=c'/\b=b':=by simpa using g1
 cases b with
 |false=>rw[g4 rfl];exact⟨bM _,bM _,nofun,nofun,nofun,λk hk=>by simp at hk⟩
 |true=>obtain⟨a1,a2,a3,_⟩:=Fm g2 (g3 rfl).1;exact⟨a1.len,a2.len,KY a1,KY a2,λ_=>⟨(g3 rfl).1,KY a1 _ a3⟩,a1⟩
theorem TV(x:qg)(ok:Ez 1048576 x): ∃c b,Ej x.master=some (c,b,())/\FX maxLen c/\(VC x->c.replicas.length<=5/\c.witnesses.length<=5/\(∀z∈c.replicas,0<=z/\z<5)/\(∀z∈c.witnesses,0<=z/\z<5)/\(b=true->Ek c=some (true,())/\0<=c.primary/\c.primary<5)/\NQ c.replicas):=by obtain⟨c,b,h1,h2⟩:=TZ x ok x.master.activated;exact⟨c,b,by unfold Ej;rw[h1];rfl,h2⟩
theorem YP(s:qj)(e:Int)(h:EA 1048576 s):Tt (λy=>EA 1048576 y.1) (Gh s e):=by unfold Gh;rw[(K4 s h).1,ao,EM,ao,Ef];exact .br (λ_=> .br (λ_=> .ret h) λ_=> .br (λ_=> .ret h) λ_=> .ret h) λ_=> .ret h
theorem abR(x:qg)(ok:Ez 1048576 x)(id e:Int):Tt (λy=>Kp x y.1) (E0 x id e):=by
 obtain⟨c,b,c1,c2,c3⟩:=TV x ok;unfold E0;rw[(EL x ok).1,ao,c1,ao];refine .bind (LK x ok) λv hv=> ?_;rw[Ef];refine .br (λh=> ?_) λ_=> .ret (.self ok);have vc:=hv h;rw[Ef];refine .br (λ_=> ?_) λ_=> .ret (.self ok);rw[EM,ao,Ef];refine .br (λ_=> .bind (MC c c2) λm hm=> ?_) λ_=> .ret (.self ok);have hl:m.1.length<=maxLen:=by have:=hm.1;unfold maxLen;omega
 refine .bind (.count (B:=Ff) (E:=λe=> ∃S:List qj,(S.length=5/\ ∀s∈S,EA 1048576 s)/\e=(((),(),()),(fz,fc x,()),S,x.sides,x.master.configs,x.places,())) m.1.length (λk (S:List qj)=>((id,e,(),(),(),(),(k:Int),()),(fx x,fz,fc x,()),m.1,S,x.sides,x.master.configs,x.places,())) (λ_ S=>S.length=5/\ ∀s∈S,EA 1048576 s) (λS hS=> .end (DM _) (.ret ⟨S,hS,rfl⟩)) (λk S hk hS=> .go (DI.2 hk) (.ip ⟨DH k,DI.2 hk⟩ (.get (tn hk) λz hz' hz=> .srv ok vc (hm.2 z hz) λs _ _ _=> .br (λ_=> .ip ⟨DH k,DI.2 hk⟩ (.get (tn hk) λz2 _ hz2=> .bind (SK ok vc id z2) λ_ _=> .br (λ_=> .ip ⟨DH k,DI.2 hk⟩ (.get (tn hk) λz3 _ hz3=> .ip ⟨DH k,DI.2 hk⟩ (.get (tn hk) λz4 _ hz4=> .srv ok vc (hm.2 z4 hz4) λt _ t2 _=> .bind (YP t e t2) λu hu=> .at hS.1 (hm.2 z3 hz3) λ_ _ _=> .ret ⟨S.set z3.toNat u.1,by rw[BI hl hk],WC hS hu _⟩))) λ_=> .ret ⟨S,by rw[BI hl hk],hS⟩)) λ_=> .ret ⟨S,by rw[BI hl hk],hS⟩))) x.servers ⟨vc.len,ok.1.2⟩) ?_
 rintro _ ⟨S,hS,rfl⟩
 exact .ret ((Kp.self ok).srvs (by rw[hS.1,vc.len]) hS.2)
section
variable {x:qg} (ok:Ez 1048576 x) (vc:VC x) (id:Int)
include ok vc
theorem YT:Tt (λy=>y.1.length<=5/\ ∀z∈y.1,0<=z/\z<5) (Fn x id):=by
 obtain⟨c,d,c1,c2,c3⟩:=TV x ok;obtain⟨r5,_,inr,_⟩:=c3 vc;have rm:c.replicas.length<=maxLen:=by unfold maxLen;omega
 unfold Fn;rw[c1,ao];refine .bind (.count (B:=FS) (E:=λe=>e.2.2.1.length<=5/\ ∀z∈e.2.2.1,0<=z/\z<5) c.replicas.length (λk (b:List Int)=>((id,(),(),(),d,(k:Int),()),(fx x,(c.epoch,c.primary,(),(),()),()),b,c.replicas,c.witnesses,())) (λk b=>b.length<=k/\ ∀z∈b,0<=z/\z<5) (λb hb=> .end (DM _) (.ret ⟨aX hb.1 r5,hb.2⟩)) (λk b hk hb=> ?_) [] ⟨ay _,nofun⟩) λy hy=> .ret hy;have ex:b.length<=5/\ ∀z∈b,0<=z/\z<5:=⟨by omega,hb.2⟩
 have st:b.length<=k+1/\ ∀z∈b,0<=z/\z<5:=⟨by omega,hb.2⟩
 refine .go (DI.2 hk) (.br (λ_=> .bind (LK x ok) λ_ _=> .br (λ_=> ?_) λ_=> .ret ex) λ_=> .ret ex);rw[EM,ao];refine .br (λ_=> .ip ⟨DH k,DI.2 hk⟩ (.get (tn hk) λz _ hz=> .srv ok vc (inr z hz) λs _ _ _=> .br (λ_=> .br (λ_=> .ip ⟨DH k,DI.2 hk⟩ (.get (tn hk) λz2 _ hz2=> .bind (SK ok vc id z2) λ_ _=> .br (λ_=> .ip ⟨DH k,DI.2 hk⟩ (.get (tn hk) λz3 _ hz3=> .ip ?_ (.ret ⟨b++ [z3],by rw[BI rm hk],?_⟩))) λ_=> .ret ⟨b,by rw[BI rm hk],st⟩)) λ_=> .ret ⟨b,by rw[BI rm hk],st⟩) λ_=> .ret ⟨b,by rw[BI rm hk],st⟩)) λ_=> .ret ex
 ·show (b++ [z3]).length*8<=2 ^ 40;rw[bJ,cy];omega
 ·exact⟨by rw[bJ,cy];omega,λy hy=>(bC.1 hy).elim (hb.2 y) λh=>by rw[aL.1 h];exact inr z3 hz3⟩
theorem abt:Tt (λy=>y.1= -1\/0<=y.1/\y.1<5) (FK x id):=by
 unfold FK;refine .bind (YT ok vc id) λl hl=> ?_;have lm:l.1.length<=maxLen:=by have:=hl.1;unfold maxLen;omega
 refine .bind (.count (B:=F8) (E:=λe=>e.1.1= -1\/0<=e.1.1/\e.1.1<5) l.1.length (λk (b:Int)=>(((),b,(),(k:Int),()),(fx x,()),l.1,())) (λ_ b=>b= -1\/0<=b/\b<5) (λb hb=> .end (DM _) (.ret hb)) (λk b hk hb=> ?_) (-1) (.inl rfl)) λy hy=> .ret hy;refine .go (DI.2 hk) (.br (λ_=> .ip ⟨DH k,DI.2 hk⟩ (.get (tn hk) λz _ hz=> .ret ⟨z,by rw[BI lm hk],.inr (hl.2 z hz)⟩)) λhn=> .ip ⟨DH k,DI.2 hk⟩ (.get (tn hk) λz _ hz=> .srv ok vc (hl.2 z hz) λs _ _ _=> .srv ok vc (a:=b) ?_ λt _ _ _=> .br (λ_=> .ip ⟨DH k,DI.2 hk⟩ (.get (tn hk) λz2 _ hz2=> .ret ⟨z2,by rw[BI lm hk],.inr (hl.2 z2 hz2)⟩)) λ_=> .ret ⟨b,by rw[BI lm hk],hb⟩));have hn: ¬b<0:=of_decide_eq_false hn;omega
omit ok vc in
theorem Xj(f:Int)(l:List rk)(hl:l.length<=maxLen):Tt (λy=>y.1=true->0<=f/\l.length<=3) (Ma f l):=by obtain⟨b,b1,b2⟩:=Of hl;unfold Ma;rw[b1,ao];refine .br (λ_=> .br (λh=> ?_) λ_=> .ret nofun) λ_=> .ret nofun;have h: (l.length:Int)<=3:=of_decide_eq_true h;rw[EM,ao];refine .br (λw=> ?_) λ_=> .ret nofun;have w:=Eg.1 w;exact .br (λ_=> .ret λ_=>⟨w.1,by omega⟩) λ_=> .ret λ_=>⟨w.1,by omega⟩
omit ok vc in
theorem abA(a:List rk)(f:Int)(t:List rk)(ha:a.length<=1048576)(ht:t.length<=1048576):Tt (λy=>y.1.length<=19) (Gd a f t):=by
 obtain⟨b,b1,b2⟩:=Of (Ep ha);unfold Gd;rw[b1,ao,Ef];refine .br (λe=> ?_) λ_=> .ret (bM _);have h16:=b2 e;refine .bind (Xj f t (Ep ht)) λg hg=> ?_;rw[Ef];refine .br (λe=> ?_) λ_=> .ret (bM _);obtain⟨f0,t3⟩:=hg e;refine .br (λ_=> .ret (bM _)) λhn=> ?_;have hn: ¬f>(a.length:Int):=of_decide_eq_false hn;obtain⟨n,n1,n2,n3,_⟩:=NS ((a.drop f.toNat).take ((a.length:Int).toNat-f.toNat)) t (aX (by rw[cP,co];omega) (Ep ha));refine .ip (by omega) ?_;rw[n1,ao,vN (n:=(a.length:Int)-f) (by omega) (by omega)];refine .br (λ_=> .ret (bM _)) λ_=> ?_;rw[PO ha,ao]
 have hl: (a++((t.drop (n:Int).toNat).take ((t.length:Int).toNat-(n:Int).toNat))).length<=19:=by rw[bJ,cP,co];omega
 refine .ip (by omega) (.ip (aX (bq 56 hl) (by omega)) ?_);obtain⟨d,d1,_⟩:=Of (l:=a++((t.drop (n:Int).toNat).take ((t.length:Int).toNat-(n:Int).toNat))) (by unfold maxLen;omega);rw[show ET _=_ from d1,ao,Ef];exact .br (λ_=> .ret hl) λ_=> .ret (bM _)
omit ok vc in
theorem abr(s:qj)(id:Int)(h:EA 1048576 s)(hf:0<=s.first/\s.first<=16/\s.log.length<=16):Tt (λy=>y.1.length<=1048576) (HA s id):=by obtain⟨n,n1,_⟩:=KX s.config id (Ei h.1);unfold HA;rw[n1,ao,PO h.2.2,ao];have fA:Tt (λy:List rk×Unit=>y.1.length<=1048576) ((EB s).bind λy3=>br (decide ((y3.1.length:Int)>(s.learned.length:Int))) (some (y3.1,())) (some (s.learned,()))):=.bind (Ps s h hf) λy hy=> .br (λ_=> .ret (by show y.1.length<=_;omega)) λ_=> .ret h.2.2;exact .br (λ_=>fA) λ_=> .br (λ_=>fA) λ_=> .ret h.2.2
theorem abn{c:nF}{w:qj}(hw:EA 1048576 w)(j:Int)(d:Bool)(b:List rk×Bool)(hb:b.1.length<=19):Tt (λe=> ∃r:List rk×Bool,r.1.length<=19/\e=((id,(),(),r.2,(),d,j,()),(fx x,(c.epoch,c.primary,(),(),()),()),r.1,c.replicas,c.witnesses,())) (IL ((id,(),(),b.2,(),d,j,(),0,()),(fx x,(c.epoch,c.primary,(),(),()),XT w,()),b.1,c.replicas,c.witnesses,())):=by
 refine .count (B:=FG) (E:=λe=> ∃r:List rk×Bool,r.1.length<=19/\e=((id,(),(),r.2,(),d,j,()),(fx x,(c.epoch,c.primary,(),(),()),()),r.1,c.replicas,c.witnesses,())) 5 (λk (b:List rk×Bool)=>((id,(),(),b.2,(),d,j,(),(k:Int),()),(fx x,(c.epoch,c.primary,(),(),()),XT w,()),b.1,c.replicas,c.witnesses,())) (λ_ b=>b.1.length<=19) (λb hb=> .end (DM _) (.ret ⟨b,hb,rfl⟩)) (λk b hk hb=> ?_) b hb;have hkk:0<=(k:Int)/\(k:Int)<5:=⟨DH k,DI.2 hk⟩
 have sw:=BI (n:=5) (by decide) hk;refine .go hkk.2 (.srv ok vc hkk λs _ _ _=> ?_);dsimp only;rw[sw,Ef];refine .br (λ_=> .bind (SK ok vc id k) λy _=> ?_) λ_=> .ret ⟨b,rfl,hb⟩;rw[Ef];refine .br (λ_=> .srv ok vc hkk λt _ t2 t3=> .bind (abr t k t2 (UQ t2 t3)) λy hy=> .bind (abA y.1 w.first w.log hy hw.2.1) λz hz=> .br (λ_=> ?_) λ_=> .ret ⟨b,rfl,hb⟩) λ_=> .ret ⟨b,rfl,hb⟩;rw[Ef];exact .br (λ_=> .br (λ_=> .ret ⟨(z.1,true),rfl,hz⟩) λ_=> .ret ⟨b,rfl,hb⟩) λ_=> .ret ⟨(z.1,true),rfl,hz⟩
theorem Y6:Tt (λy=>y.1.length<=19) (Fo x id):=by
 obtain⟨c,d,c1,c2,c3⟩:=TV x ok;obtain⟨_,r5,_,inw,_⟩:=c3 vc;have rm:c.witnesses.length<=maxLen:=by unfold maxLen;omega
 unfold Fo;rw[c1,ao];refine .bind (.count (B:=Fv) (E:=λe=>e.2.2.1.length<=19) c.witnesses.length (λk (b:List rk×Bool)=>((id,(),(),b.2,(),d,(k:Int),()),(fx x,(c.epoch,c.primary,(),(),()),()),b.1,c.replicas,c.witnesses,())) (λ_ b=>b.1.length<=19) (λb hb=> .end (DM _) (.ret hb)) (λk b hk hb=> ?_) ([],false) (bM _)) λy hy=> .ret hy;refine .go (DI.2 hk) (.br (λ_=> .bind (LK x ok) λ_ _=> .br (λ_=> ?_) λ_=> .ret hb) λ_=> .ret hb);rw[EM,ao];refine .br (λ_=> .ip ⟨DH k,DI.2 hk⟩ (.get (tn hk) λz _ hz=> .srv ok vc (inw z hz) λs _ s2 _=> ?_)) λ_=> .ret hb;have sw:=BI rm hk;rw[Ef];refine .br (λ_=> ?_) λ_=> .ret ⟨b,by rw[sw],hb⟩;rw[Ef];refine .br (λ_=> .ip ⟨DH k,DI.2 hk⟩ (.get (tn hk) λz2 _ _=> .bind (SK ok vc id z2) λy _=> ?_)) λ_=> .ret ⟨b,by rw[sw],hb⟩;rw[Ef];refine .br (λ_=> .bind (abn ok vc id (c:=c) s2 k d b hb) ?_) λ_=> .ret ⟨b,by rw[sw],hb⟩
 rintro _ ⟨r,hr,rfl⟩
 exact .ret ⟨r,by rw[<-sw],hr⟩
theorem ZM:Tt (λy=>y.1.length<=1048576) (Fy x id):=by unfold Fy;refine .bind (LK x ok) λv _=> ?_;rw[Ef];refine .br (λ_=> ?_) λ_=> .ret (bM _);rw[EM,ao,Ef];refine .br (λ_=> .br (λ_=> .ret (bM _)) λ_=> .bind (abt ok vc id) λn hn=> .br (λh=> ?_) λ_=> .bind (Y6 ok vc id) λy hy=> .ret (by show y.1.length<=_;omega)) λ_=> .ret (bM _);have h:n.1≥0:=of_decide_eq_true h;refine .srv ok vc (by omega) λs _ s2 _=> ?_;rw[PO s2.2.1];exact .ret s2.2.1
end
theorem RC(l:List rk)(hl:l.length<=maxLen):Tt T1 (EX l):=by unfold EX;refine .bind (.count (B:=GA) (E:=λ_=>True) l.length (λk (_:Unit)=>((l,(k:Int),()),(),())) (λ_ _=>True) (λ_ _=> .end (DM _) (.ret trivial)) (λk _ hk _=> .go (DI.2 hk) (.ip (DH k) (.get (tn hk) λe _ _=> .bind (Q:=T1) (by unfold HS;exact .ret trivial) λ_ _=> .br (λ_=> .ret trivial) λ_=> .ret ⟨(),by rw[BI hl hk],trivial⟩))) () trivial) λy _=> ?_;cases y<;>exact .ret trivial
theorem X2(s:qj)(c:nF)(id:Int)(l:List rk)(hs:EA 1048576 s)(hc:FX 1048576 c)(hl:l.length<=1048576):Tt (λy=>EA 1048576 y.1) (FI s c id l):=by
 obtain⟨n,n1,_⟩:=KX c id (Ei hc);obtain⟨b,b1,_⟩:=Of (Ep hl);obtain⟨e,e1,_⟩:=GU l (Ep hl);unfold FI;simp only[n1,b1,e1,(K4 s hs).1,(MV c hc).1,PO hl,EM,ao,Ef,RJ l hl];have hk:cutAt l<=l.length:=Nat.sub_le _ _
 have hl2: ((l.drop (cutAt l)).take ((l.length:Int).toNat-cutAt l)).length<=1048576:=by rw[cP,co];omega
 refine .br (λ_=> .ret hs) λ_=> .br (λ_=> .br (λ_=> .br (λ_=> .br (λ_=> .ret hs) λ_=> .br (λ_=> .bind (RC l (Ep hl)) λ_ _=> .br (λ_=> .ret hs) λ_=> ?_) λ_=> ?_) λ_=> .ret hs) λ_=> .ret hs) λ_=> .ret hs
 all_goals
  exact .br (λ_=> .ip (by omega) (.bind (Q:=λy=>y.1.length<=1048576) ⟨_,PO hl2,hl2⟩ λy hy=> .ret ⟨hc,hy,bM _⟩)) λ_=> .ret ⟨hc,hl,bM _⟩
theorem VK(m:jY)(h:NY 1048576 m)(e:Int):Tt (λy=>NY 1048576 y.1/\y.1.configs.length=m.configs.length) (Fw m e):=by obtain⟨b,b1,_⟩:=masterLog m (Fh h);unfold Fw;rw[(Ob m h).1,ao,b1,ao,Ef];refine .br (λ_=> ?_) λ_=> .ret ⟨h,rfl⟩;rw[Ef];exact .br (λ_=> .br (λ_=> .ret ⟨h,rfl⟩) λ_=> .ret ⟨h,rfl⟩) λ_=> .ret ⟨h,rfl⟩
theorem OU(x:qg)(ok:Ez 1048576 x):Tt (λy=>Kp x y.1) (Ga x):=by
 obtain⟨c,b,c1,c2,c3⟩:=TZ x ok (x.master.configs.length:Int);unfold Ga Ge;rw[(EL x ok).1,ao,c1,ao,ao];refine .bind (LK x ok) λv hv=> ?_;rw[Ef];refine .br (λh=> ?_) λ_=> .ret (.self ok);have vc:=hv h;rw[Ef];refine .br (λhb=> .br (λ_=> .ret (.self ok)) λ_=> .br (λ_=> .ret (.self ok)) λ_=> ?_) λ_=> .ret (.self ok);obtain⟨r5,w5,_,_,hp,_⟩:=c3 vc;have hp:=(hp hb).2;have hc:FX 1048576 c:=⟨by omega,by omega⟩
 have s5:=IP (Ep ok.2.1) vc.sides;refine .srv ok vc hp λs _ _ _=> ?_;rw[Ef];refine .br (λ_=> .ip hp.1 (.get (by show c.primary.toNat<x.sides.length;omega) λsd _ _=> ?_)) λ_=> .ret (.self ok);rw[Ef];refine .br (λ_=> ?_) λ_=> .ret (.self ok);obtain⟨o,o1,_⟩:=MY x.lease x.now;rw[o1,ao,Ef];refine .br (λ_=> .bind (abR x ok c.primary c.epoch) λy hy=> .bind (ZM ok vc c.primary) λl hl=> ?_) λ_=> .ret (.self ok);rw[Ef];refine .br (λ_=> .bind (MC c c2) λm hm=> ?_) λ_=> .ret hy;have ml:m.1.length<=maxLen:=by have:=hm.1;unfold maxLen;omega
 have hyS:y.1.servers.length=5/\ ∀s∈y.1.servers,EA 1048576 s:=⟨hy.2.trans vc.len,hy.1.1.2⟩
 refine .bind (.count (B:=GI) (E:=Sum.elim (λe=> ∃n:Int,e=(((),(),n,(),(),(),(),()),(fx x,fc y.1,(fc y.1,(c.epoch,c.primary,(),(),()),())),l.1,m.1,y.1.servers,y.1.sides,y.1.master.configs,y.1.places,c.replicas,c.witnesses,())) λe=>e.2=((fx x,fz,fc y.1,(c.epoch,c.primary,(),(),()),()),l.1,m.1,y.1.servers,y.1.sides,y.1.master.configs,y.1.places,c.replicas,c.witnesses,())) m.1.length (λk (_:Unit)=>(((),(),(),(),(),(),(k:Int),()),(fx x,fz,fc y.1,(c.epoch,c.primary,(),(),()),()),l.1,m.1,y.1.servers,y.1.sides,y.1.master.configs,y.1.places,c.replicas,c.witnesses,())) (λ_ _=>True) (λ_ _=> .end (DM _) (.ret rfl)) (λk _ hk _=> ?_) () trivial) λe he=> ?_
 ·refine .go (DI.2 hk) (.ip ⟨DH k,DI.2 hk⟩ (.get (tn hk) λz _ hz=> .srv ok vc (hm.2 z hz) λs _ _ _=> ?_));rw[Ef];refine .br (λ_=> .ip ⟨DH k,DI.2 hk⟩ (.get (tn hk) λz2 _ hz2=> .ip (hm.2 z2 hz2).1 (.get (by have:=hm.2 z2 hz2;show z2.toNat<x.sides.length;omega) λw _ _=> ?_))) λ_=> .ret ⟨_,rfl⟩;rw[Ef];exact .br (λ_=> .ret ⟨(),by rw[BI ml hk],trivial⟩) λ_=> .ret ⟨_,rfl⟩
 cases e with
 |inl e=>obtain⟨n,rfl⟩:=he;exact .ret hy
 |inr e=>
  show Tt _ ((IW (((),(),(),(),(),(),0,()),e.2)).bind _);rw[show e.2=_ from he];refine .bind (.count (B:=FF) (E:=Sum.elim (λe=> ∃n:Int,e=(((),(),n,(),(),(),(),()),(fx x,fc y.1,(fc y.1,(c.epoch,c.primary,(),(),()),())),l.1,m.1,y.1.servers,y.1.sides,y.1.master.configs,y.1.places,c.replicas,c.witnesses,())) λe=>e.2=((fx x,fz,fc y.1,(c.epoch,c.primary,(),(),()),()),l.1,m.1,y.1.servers,y.1.sides,y.1.master.configs,y.1.places,c.replicas,c.witnesses,())) m.1.length (λk (_:Unit)=>(((),(),(),(),(),(),(k:Int),()),(fx x,fz,fc y.1,(c.epoch,c.primary,(),(),()),()),l.1,m.1,y.1.servers,y.1.sides,y.1.master.configs,y.1.places,c.replicas,c.witnesses,())) (λ_ _=>True) (λ_ _=> .end (DM _) (.ret rfl)) (λk _ hk _=> .go (DI.2 hk) (.ip ⟨DH k,DI.2 hk⟩ (.get (tn hk) λz _ hz=> .srv ok vc (hm.2 z hz) λs _ _ _=> .br (λ_=> .bind (RC l.1 (Ep hl)) λ_ _=> .br (λ_=> .ret ⟨_,rfl⟩) λ_=> .ret ⟨(),by rw[BI ml hk],trivial⟩) λ_=> .ret ⟨(),by rw[BI ml hk],trivial⟩))) () trivial) λe he=> ?_;cases e with
  |inl e=>obtain⟨n,rfl⟩:=he;exact .ret hy
  |inr e=>
   show Tt _ ((Lb (((),(),(),(),(),(),0,()),e.2)).bind _);rw[show e.2=_ from he];refine .bind (.count (B:=G7) (E:=λe=> ∃S:List qj,(S.length=5/\ ∀s∈S,EA 1048576 s)/\e=(((),(),(),(),()),(fx x,fz,fc y.1,(c.epoch,c.primary,(),(),()),()),S,y.1.sides,y.1.master.configs,y.1.places,c.replicas,c.witnesses,())) m.1.length (λk (S:List qj)=>(((),(),(),(),(),(),(k:Int),()),(fx x,fz,fc y.1,(c.epoch,c.primary,(),(),()),()),l.1,m.1,S,y.1.sides,y.1.master.configs,y.1.places,c.replicas,c.witnesses,())) (λ_ S=>S.length=5/\ ∀s∈S,EA 1048576 s) (λS hS=> .end (DM _) (.ret ⟨S,hS,rfl⟩)) (λk S hk hS=> ?_) y.1.servers hyS) ?_
   ·refine .go (DI.2 hk) (.ip ⟨DH k,DI.2 hk⟩ (.get (tn hk) λz _ hz=> .ip ⟨DH k,DI.2 hk⟩ (.get (tn hk) λz2 _ hz2=> .at hS.1 (hm.2 z2 hz2) λs e' hs=> .ip ⟨DH k,DI.2 hk⟩ (.get (tn hk) λz3 _ _=> ?_))));dsimp only;simp only[e',ao,cE,DP,aP];refine .ip (ay _) (.ip (ay _) (.ip (ay _) (.ip (ay _) (.bind (X2 s c z3 l.1 (hS.2 s hs) hc hl) λu hu=> .at hS.1 (hm.2 z hz) λ_ _ _=> .ret ⟨S.set z.toNat u.1,by rw[BI ml hk],WC hS hu _⟩))))
   ·rintro _ ⟨S,hS,rfl⟩
    refine .bind (VK x.master ok.2.2.1 c.epoch) λw hw=> .ret ?_;exact⟨⟨⟨by show S.length<=_;rw[hS.1];decide,hS.2⟩,hy.1.2.1,hw.1,hy.1.2.2.2⟩,by show S.length=_;rw[hS.1,vc.len]⟩
end
section
theorem Vw(m:jY)(h:NY 1048576 m)(c:nF)(hc:FX 1048576 c):Tt (λy=>NY 1048576 y.1/\y.1.configs.length<=m.configs.length+1) (GZ m c):=by
 have self:NY 1048576 m/\m.configs.length<=m.configs.length+1:=⟨h,cK _⟩
 obtain⟨b,b1,_⟩:=masterLog m (Fh h);obtain⟨d,d1,_⟩:=GP c (Ei hc);unfold GZ;rw[(Ob m h).1,ao,b1,ao,Ef];refine .br (λe=> ?_) λ_=> .ret self;subst e;have hl:=TP h b1;rw[d1,ao,Ef];refine .br (λ_=> ?_) λ_=> .ret self;rw[Ef];refine .br (λ_=> ?_) λ_=> .ret self;rw[(MV c hc).1,ao];have h2: (m.configs++ [c]).length<=21:=by rw[bJ,cy];omega
 exact .ip (aX (bq 64 h2) (by omega)) (.ret ⟨⟨aX h2 (by omega),λd hd=>(bC.1 hd).elim (h.2 d) λe=>by rw[aL.1 e];exact hc⟩,by show (m.configs++ [c]).length<=_;rw[bJ];exact ay _⟩)
theorem O0(x:qg)(ok:Ez 1048576 x)(c:nF)(hc:FX 1048576 c):Tt (λy=>Kp x y.1) (F4 x c):=by unfold F4;rw[(EL x ok).1,ao];refine .bind (LK x ok) λv _=> ?_;rw[Ef];refine .br (λ_=> .br (λ_=> .ret (.self ok)) λ_=> .bind (Vw x.master ok.2.2.1 c hc) λm hm=> ?_) λ_=> .ret (.self ok);rw[Ef];exact .br (λ_=> .ret ⟨⟨ok.1,ok.2.1,hm.1,ok.2.2.2⟩,rfl⟩) λ_=> .ret (.self ok)
theorem aaE(x:qg)(ok:Ez 1048576 x)(n:Int):Tt (λy=>Kp x y.1) (I9 x n):=by unfold I9;rw[(EL x ok).1,ao];refine .bind (LK x ok) λv _=> ?_;rw[Ef];refine .br (λ_=> ?_) λ_=> .ret (.self ok);rw[EM,ao,Ef];exact .br (λ_=> .ret ⟨ok,rfl⟩) λ_=> .ret (.self ok)
theorem ZW(x:qg)(ok:Ez 1048576 x)(id:Int):Tt (λy=>y.1=true->VC x/\0<=id/\id<5) (HB x id):=by obtain⟨b,b1,_,b2⟩:=RK x id ok;exact⟨_,b1,λe=>⟨Es ok (b2 e).1,(b2 e).2⟩⟩
theorem Y1(x:qg)(ok:Ez 1048576 x)(id:Int):Tt (λy=>Kp x y.1) (G2 x id):=by unfold G2;rw[(EL x ok).1,ao];refine .bind (ZW x ok id) λv hv=> ?_;rw[Ef];refine .br (λe=> ?_) λ_=> .ret (.self ok);obtain⟨vc,hid⟩:=hv e;refine .srv ok vc hid λs _ _ _=> .br (λ_=> .ret (.self ok)) λ_=> .srv ok vc hid λt _ _ _=> ?_;rw[Ef];exact .br (λ_=> .at vc.len hid λu _ hu=> .ret ((Kp.self ok).set (s:=⟨u.up,u.intact,2,u.epoch,u.config,u.first,u.log,u.commit,u.learned⟩) (ok.1.2 u hu) _)) λ_=> .ret (.self ok)
theorem VT(x:qg)(ok:Ez 1048576 x)(id:Int):Tt (λy=>Kp x y.1) (Gb x id):=by
 unfold Gb;rw[(EL x ok).1,ao];refine .bind (ZW x ok id) λv hv=> ?_;rw[Ef];refine .br (λe=> ?_) λ_=> .ret (.self ok);obtain⟨vc,hid⟩:=hv e;refine .srv ok vc hid λs _ _ _=> .br (λ_=> .ret (.self ok)) λ_=> .srv ok vc hid λt _ _ _=> ?_;rw[Ef];refine .br (λ_=> .srv ok vc hid λs _ s2 _=> .bind (Q:=T1) ?_ λ_ _=> .br (λ_=> .ret (.self ok)) λ_=> .bind (.count (B:=GM) (E:=Sum.elim (λe=> ∃n:Int,e=((id,(),n,(),()),(fc x,fc x,()),x.servers,x.sides,x.master.configs,x.places,())) λe=>e=((id,(),(),(),()),(fz,fc x,()),x.servers,x.sides,x.master.configs,x.places,())) x.servers.length (λk (_:Unit)=>((id,(),(),(),(),(k:Int),()),(fx x,fz,fc x,XT s,()),x.servers,x.sides,x.master.configs,x.places,())) (λ_ _=>True) (λ_ _=> .end (DM _) (.ret rfl)) (λk _ hk _=> ?_) () trivial) λe he=> ?_) λ_=> .ret (.self ok)
 ·unfold Ie;exact .bind (RC _ (Ep s2.2.2)) λ_ _=> .ret trivial
 ·have sw:=BI (Ep ok.1.1) hk;refine .go (DI.2 hk) ?_;rw[show IV _=_ from I1 s.config (Ei s2.1),ao,Ef];refine .br (λ_=> .ret rfl) λ_=> .ip (DH k) (.get (tn hk) λt _ ht=> ?_);have ht:=ok.1.2 t ht;rw[show Gc _ _=_ from (F9 t.config s.config (Ei ht.1)).1,ao];refine .br (λ_=> .ip (DH k) (.get (tn hk) λu _ hu=> .bind (Q:=T1) ?_ λ_ _=> .br (λ_=> .ret ⟨_,rfl⟩) λ_=> .ret ⟨(),by rw[sw],trivial⟩)) λ_=> .ret ⟨(),by rw[sw],trivial⟩;unfold Ie;exact .bind (RC _ (Ep (ok.1.2 u hu).2.1)) λ_ _=> .ret trivial
 cases e with
 |inl e=>obtain⟨n,rfl⟩:=he;exact .ret (.self ok)
 |inr e=>obtain rfl:=he;exact .at vc.len hid λu _ hu=> .ret ((Kp.self ok).set (s:=⟨u.up,u.intact,1,u.epoch,u.config,u.first,u.log,u.commit,u.learned⟩) (ok.1.2 u hu) _)
theorem YQ(x:qg)(ok:Ez 1048576 x):Tt T1 (Ig x):=by
 obtain⟨c,b,c1,c2,c3⟩:=TV x ok;unfold Ig;rw[c1,ao];refine .bind (LK x ok) λv hv=> ?_;rw[Ef];refine .br (λh=> ?_) λ_=> .ret trivial;have vc:=hv h;rw[Ef];refine .br (λhb=> ?_) λ_=> .ret trivial;obtain⟨_,_,_,_,hp,_⟩:=c3 vc;have hp:=(hp hb).2;refine .srv ok vc hp λs _ s2 _=> ?_;obtain⟨d,d1,_⟩:=MQ s c.primary s2;rw[d1,ao,Ef];refine .br (λ_=> .srv ok vc hp λt _ _ _=> ?_) λ_=> .ret trivial;rw[Ef];refine .br (λ_=> .bind (MC c c2) λm hm=> .bind (.count (B:=Iq) (E:=λ_=>True) m.1.length (λk (_:Unit)=>(((),(),(),(k:Int),()),(fx x,(c.epoch,c.primary,(),(),()),()),m.1,c.replicas,c.witnesses,())) (λ_ _=>True) (λ_ _=> .end (DM _) (.ret trivial)) (λk _ hk _=> .go (DI.2 hk) (.ip ⟨DH k,DI.2 hk⟩ (.get (tn hk) λz _ hz=> .bind (XY ok vc hp (hm.2 z hz)) λy _=> ?_))) () trivial) λe _=> ?_) λ_=> .ret trivial
 ·rw[Ef];exact .br (λ_=> .ret ⟨(),by rw[BI (by have:=hm.1;unfold maxLen;omega) hk],trivial⟩) λ_=> .ret trivial
 ·cases e<;>exact .ret trivial
theorem WL(x:qg)(ok:Ez 1048576 x):Tt T1 (JY x):=by unfold JY;exact .bind (YQ x ok) λ_ _=> .ret trivial
section
variable {l:List uO} (hl:l.length<=maxLen) (hv:Fb l=some (true,()))
include hl hv
theorem abg(m:List Int)(hm:NQ m):Tt (λy=>y.1.length<=5) (Ns l m):=by have h5:=Qz hl hv;have ml:=hm.len;unfold Ns;refine .bind (.count (B:=MU) (E:=λe=>e.2.2.1.length<=5) m.length (λk (b:List Int)=>((l,m,(),(k:Int),()),(),b,())) (λk b=>b.length<=k/\SS b) (λb hb=> .end (DM _) (.ret (aX hb.1 ml))) (λk b hk hb=> ?_) [] ⟨ay _,List.Pairwise.nil⟩) λy hy=> .ret hy;refine .go (DI.2 hk) ?_;dsimp only;rw[hv,ao,(RB hm).1,ao];refine .br (λ_=> .br (λ_=> .ip (DH k) (.get (tn hk) λz _ hz=> .ip (KY hm z hz).1 (.get (by have:=KY hm z hz;omega) λp _ _=> ?_))) (λh=>by cases h)) (λh=>by cases h);obtain⟨r,r1,r2,_,r4,_⟩:=abf b p.rack (by omega) hb.2;rw[r1,ao];exact .ret ⟨r,by rw[BI (by unfold maxLen;omega) hk],by omega,r2⟩
theorem abQ(i:Int):Tt T1 (Nr l i):=by have h5:=Qz hl hv;unfold Nr;rw[hv,ao,EM,ao];refine .br (λ_=> .br (λh=> ?_) λ_=> .ret trivial) λ_=> .ret trivial;have h:=Eg.1 h;exact .ip h.1 (.get (by omega) λ_ _ _=> .ip h.1 (.get (by omega) λ_ _ _=> .ret trivial))
theorem Zb(r:List Int)(hr:r.length<=5){a b:Int}(ha:0<=a/\a<5)(hb:0<=b/\b<5):Tt T1 (Mq l r a b):=by
 have h5:=Qz hl hv;have rm:r.length<=maxLen:=by unfold maxLen;omega
 unfold Mq;refine .ip ha.1 (.get (by omega) λp _ _=> ?_);rw[(EG r p.rack rm).1,ao];refine .ip hb.1 (.get (by omega) λq _ _=> ?_);rw[(EG r q.rack rm).1,ao,Ef];exact .br (λ_=> .ip ha.1 (.get (by omega) λ_ _ _=> .ip hb.1 (.get (by omega) λ_ _ _=> .ret trivial))) λ_=> .ret trivial
theorem YU(m d:List Int)(hm:NQ m)(hd:d.length<=maxLen):Tt (λy=>y.1= -1\/(0<=y.1/\y.1<5/\y.1∉m)) (JZ l m d):=by
 have ml:m.length<=maxLen:=by have:=hm.len;unfold maxLen;omega
 unfold JZ;refine .bind (abg hl hv m hm) λr hr=> .bind (.count (B:=K2) (E:=λe=>e.1.1= -1\/(0<=e.1.1/\e.1.1<5/\e.1.1∉m)) 5 (λk (b:Int)=>((l,m,d,b,(),(k:Int),()),(),r.1,())) (λ_ b=>b= -1\/(0<=b/\b<5/\b∉m)) (λb hb=> .end (DM _) (.ret hb)) (λk b hk hb=> ?_) (-1) (.inl rfl)) λy hy=> .ret hy;have hkk:0<=(k:Int)/\(k:Int)<5:=⟨DH k,DI.2 hk⟩
 refine .go hkk.2 ?_;dsimp only;rw[(RB hm).1,ao,BI (n:=5) (by decide) hk];refine .br (λ_=> .bind (abQ hl hv k) λy _=> ?_) (λh=>by cases h);rw[Ef,(EG m k ml).1,(EG d k hd).1];refine .br (λ_=> .br (λ_=> .ret ⟨b,rfl,hb⟩) λhn=> .br (λ_=> .ret ⟨b,rfl,hb⟩) λ_=> ?_) λ_=> .ret ⟨b,rfl,hb⟩;have hn: (k:Int)∉m:=of_decide_eq_false hn;refine .br (λ_=> .ret ⟨(k:Int),rfl,.inr ⟨hkk.1,hkk.2,hn⟩⟩) λh0=> ?_;have h0: ¬b<0:=of_decide_eq_false h0;exact .bind (Zb hl hv r.1 hr hkk (by omega)) λ_ _=> .br (λ_=> .ret ⟨(k:Int),rfl,.inr ⟨hkk.1,hkk.2,hn⟩⟩) λ_=> .ret ⟨b,rfl,hb⟩
omit hv in
theorem abJ(m a:List Int)(hm:NQ m)(ha:NQ a)(want:Int):Tt (λy=>NQ y.1) (Ju l m a want):=by
 have am:a.length<=maxLen:=by have:=ha.len;unfold maxLen;omega
 obtain⟨v,v1,_⟩:=KF l hl;have nil:NQ [] :=λk hk=>by simp at hk
 unfold Ju;rw[RE m a hm am,VD _ a WE am,ao,ao,v1,ao,Ef,(RB hm).1,(RB ha).1];refine .br (λe=> .br (λh=>by cases h) λ_=> .br (λh=>by cases h) λ_=> ?_) λ_=> .ret nil;subst e;rw[EM,ao,Ef];refine .br (λ_=> ?_) λ_=> .ret nil;have dl:=(WE.filter λx=> !decide (x∈a)).len;have dm: (([0,1,2,3,4]:List Int).filter λx=> !decide (x∈a)).length<=maxLen:=by unfold maxLen;omega
 generalize ([0,1,2,3,4]:List Int).filter (λx=> !decide (x∈a))=dead at dm;refine .bind (.loop (B:=JD) (E:=Sum.elim (λe=>NQ e.2.2.1) λe=>NQ e.2.2.1) (λs=> ∃out:List Int,s=((l,want,(),(),()),(),out,dead,())/\NQ out) (λs=>(want-s.2.2.1.length).toNat) ?_ ⟨_,rfl,hm.filter _⟩) λy hy=> ?_
 ·rintro _ ⟨out,rfl,ho⟩
  have ol:=ho.len;refine .br (λc=> ?_) λ_=> .ret ho;have c: (out.length:Int)<want:=of_decide_eq_true c;refine .bind (YU hl v1 out dead ho dm) λn hn=> .br (λ_=> .ret ho) λh=> ?_;have h: ¬n.1<0:=of_decide_eq_false h
  obtain⟨n0,n5,nm⟩:0<=n.1/\n.1<5/\n.1∉out:=by
   rcases hn with h'|h'
   ·omega
   ·exact h'
  obtain⟨r,r1,r2,r3,_,r5⟩:=abf out n.1 (by omega) ho.pair;rw[show I0 _ _=_ from r1,ao];refine .ret ⟨⟨r,rfl,TX r2 λy hy=>((r3 y).1 hy).elim (λe=>by rw[e];exact⟨n0,n5⟩) (KY ho y)⟩,?_⟩;show (want-(r.length:Int)).toNat< (want-(out.length:Int)).toNat;have:=r5 nm;omega
 ·cases y with
  |inl y=>exact .ret hy
  |inr y=>exact .ret hy
end
theorem WX(x:qg)(ok:Ez 1048576 x)(want wit:Int):Tt (λy=>FX 1048576 y.1) (Jl x want wit):=by
 have zero:FX 1048576 ⟨0,0,[],[]⟩:=⟨bM _,bM _⟩
 obtain⟨v,v1,_⟩:=Fp x ok;unfold Jl;rw[v1,ao,Ef];refine .br (λe=> ?_) λ_=> .ret zero;subst e;have vc:=Es ok v1;rw[EM,ao,Ef];refine .br (λ_=> ?_) λ_=> .ret zero;rw[EM,ao,Ef];refine .br (λ_=> .br (λ_=> .ret zero) λ_=> ?_) λ_=> .ret zero;obtain⟨c,b,c1,c2,c3⟩:=TV x ok;obtain⟨r5,w5,inr,_,_,rasc⟩:=c3 vc;have rm:c.replicas.length<=maxLen:=by unfold maxLen;omega
 rw[abp x ok v1,ao,c1,ao];have up:=WJ (TW x) (n:=5) (by omega);generalize PR (TW x) 5=u at up;have um:u.length<=maxLen:=by have:=up.len;unfold maxLen;omega
 refine .bind (.count (B:=J5) (E:=λe=> ∃have':List Int,NQ have'/\e=((want,wit,(),(),(),(),(),()),(fx x,(0,0,(),(),()),(c.epoch,c.primary,(),(),()),()),u,have',c.replicas,c.witnesses,())) c.replicas.length (λk (b:List Int)=>((want,wit,(),(),(),(),(),(k:Int),()),(fx x,(0,0,(),(),()),(c.epoch,c.primary,(),(),()),()),u,b,c.replicas,c.witnesses,())) (λk b=>b.Sublist (c.replicas.take k)) (λb hb=> .end (DM _) (.ret ⟨b,?_,rfl⟩)) (λk b hk hb=> ?_) [] (List.nil_sublist _)) ?_
 ·rw[DP] at hb;exact TX (rasc.pair.sublist hb) λy hy=>inr y (hb.subset hy)
 ·have sw:=BI rm hk;have st:b.Sublist (c.replicas.take (k+1)):=hb.trans (List.take_sublist_take_left (cK k));refine .go (DI.2 hk) (.ip ⟨DH k,DI.2 hk⟩ (.get (tn hk) λz _ hz=> ?_));rw[show Fi _ _=_ from (EG u z um).1,ao];refine .br (λ_=> .ip ⟨DH k,DI.2 hk⟩ (.get (tn hk) λz2 _ hz2=> .srv ok vc (inr z2 hz2) λs _ _ _=> .br (λ_=> .ip ⟨DH k,DI.2 hk⟩ (.get (tn hk) λz3 e3 _=> ?_)) λ_=> .ret ⟨b,by rw[sw],st⟩)) λ_=> .ret ⟨b,by rw[sw],st⟩;have e3:c.replicas[k]? =some z3:=e3
  have h2: (b++ [z3]).Sublist (c.replicas.take (k+1)):=by rw[DR,e3];exact hb.append (List.Sublist.refl _)
  have h3:=h2.length_le;rw[cP] at h3;exact .ip (by show (b++ [z3]).length*8<=2 ^ 40;omega) (.ret ⟨b++ [z3],by rw[sw],h2⟩)
 ·rintro _ ⟨hv,ha,rfl⟩
  refine .bind (abJ (Ep ok.2.2.2) hv u ha up want) λp hp=> .br (λ_=> .ret zero) λh0=> ?_;have pl:=hp.len
  have p0:0<p.1.length:=by
   rcases bn p.1.length with h|h
   ·rw[h] at h0;cases h0
   ·exact h
  refine .ip ⟨cU _,DI.2 p0⟩ (.get p0 λq _ _=> ?_);rw[show Fi _ _=_ from (EG p.1 c.primary (by unfold maxLen;omega)).1,ao];have fA: ∀w:List Int,w.length<=1-> ∀ (e p':Int) (d:Bool),Tt (λy:nF×Bool×Unit=>FX 1048576 y.1) (some (⟨e,p',p.1,w⟩,d,())):=λw hw _ _ _=> .ret ⟨by show p.1.length<=_;omega,by show w.length<=_;omega⟩
  extract_lets j43
  have h43: ∀p',Tt (λy=>FX 1048576 y.1) (j43 p'):=λp'=>by unfold j43;refine .br (λ_=> ?_) λ_=>fA [] (by decide) _ _ _;rw[show GD _ _=_ from VD _ u WE um,ao];refine .bind (YU (Ep ok.2.2.2) vc.places p.1 _ hp ?_) λ_ _=> .br (λ_=>fA [_] (ay 1) _ _ _) λ_=>fA [] (by decide) _ _ _;have:=(WE.filter λx=> !decide (x∈u)).len;exact aX this (by unfold maxLen;omega)
  refine .br (λ_=> ?_) λ_=>h43 _;rw[show IV _=_ from I1 c c2,ao];exact .br (λ_=>h43 _) λ_=>h43 _
theorem YL(x:qg)(ok:Ez 1048576 x)(id t:Int):Tt (λy=>Kp x y.1) (Gg x id t):=by obtain⟨n,n1,n2⟩:=SJ x ok id;unfold Gg;rw[(EL x ok).1,ao,n1,ao,Ef];refine .br (λe=> ?_) λ_=> .ret (.self ok);obtain⟨hv,h0,h5⟩:=n2 (eq_of_beq e);have vc:=Es ok hv;have s5:=IP (Ep ok.2.1) vc.sides;refine .srv ok vc ⟨h0,h5⟩ λs _ s2 _=> ?_;obtain⟨b,b1,_⟩:=MQ s id s2;rw[b1,ao,Ef];refine .br (λ_=> .br (λ_=> .ret (.self ok)) λ_=> .ip h0 (.get (by omega) λ_ _ _=> ?_)) λ_=> .ret (.self ok);rw[Ef];refine .br (λ_=> ?_) λ_=> .ret (.self ok);rw[Ef];refine .br (λ_=> ?_) λ_=> .ret (.self ok);obtain⟨l,d,g1,_⟩:=VV x.lease s.config.epoch id x.now t;rw[g1,ao,Ef];exact .br (λ_=> .ret ⟨ok,rfl⟩) λ_=> .ret (.self ok)
theorem ZF(x:qg)(ok:Ez 1048576 x)(want term:Int):Tt (λy=>Kp x y.1) (HU x want term):=by unfold HU;rw[(EL x ok).1,ao];refine .bind (LK x ok) λv _=> ?_;rw[Ef];refine .br (λ_=> ?_) λ_=> .ret (.self ok);rw[EM,ao,Ef];refine .br (λ_=> .bind (WL x ok) λ_ _=> .br (λ_=> .ret (.self ok)) λ_=> .bind (WX x ok want 0) λn hn=> ?_) λ_=> .ret (.self ok);rw[Ef];refine .br (λ_=> .bind (O0 x ok n.1 hn) λy hy=> ?_) λ_=> .ret (.self ok);rw[Ef];refine .br (λ_=> ?_) λ_=> .ret (.self ok);obtain⟨t,t1,_⟩:=VE x.lease;rw[t1,ao];refine .bind (aaE y.1 hy.1 _) λz hz=> ?_;rw[Ef];refine .br (λ_=> .bind (OU z.1 hz.1) λa ha=> ?_) λ_=> .ret (.self ok);rw[Ef];exact .br (λ_=> .bind (YL a.1 ha.1 _ _) λr hr=> .ret (hy.trans (hz.trans (ha.trans hr)))) λ_=> .ret (hy.trans (hz.trans ha))
theorem ab1(x:qg)(ok:Ez 1048576 x)(to:Int):Tt (λy=>y.1=0->VC x) (Lk x to):=by obtain⟨c,b,c1,c2,c3⟩:=TV x ok;unfold Lk;rw[c1,ao];refine .bind (LK x ok) λv hv=> ?_;rw[Ef];refine .br (λh=> ?_) λ_=> .ret nofun;have vc:=hv h;have s5:=IP (Ep ok.2.1) vc.sides;rw[Ef];refine .br (λhb=> ?_) λ_=> .ret nofun;obtain⟨r5,_,_,_,hp,_⟩:=c3 vc;have hp:=(hp hb).2;rw[(EG c.replicas to (by unfold maxLen;omega)).1,ao,Ef];refine .br (λ_=> .br (λ_=> .ret nofun) λ_=> ?_) λ_=> .ret nofun;rw[Ef];refine .br (λ_=> .br (λ_=> .ret nofun) λ_=> .br (λ_=> .ret nofun) λ_=> .bind (WL x ok) λ_ _=> ?_) λ_=> .ret nofun;rw[Ef];refine .br (λ_=> .ip hp.1 (.get (by show c.primary.toNat<x.sides.length;omega) λ_ _ _=> ?_)) λ_=> .ret nofun;rw[Ef];refine .br (λ_=> .br (λ_=> ?_) λ_=> .ret λ_=>vc) λ_=> .ret nofun;rw[Ef];exact .br (λ_=> .ret λ_=>vc) λ_=> .ret nofun
theorem ZP(x:qg)(ok:Ez 1048576 x)(to:Int):Tt (λy=>Kp x y.1) (G1 x to):=by
 obtain⟨c,b,c1,c2,c3⟩:=TV x ok;unfold G1;rw[(EL x ok).1,ao];refine .bind (ab1 x ok to) λn hn=> ?_;rw[Ef];refine .br (λh=> ?_) λ_=> .ret (.self ok);obtain⟨r5,w5,_⟩:=c3 (hn (eq_of_beq h));rw[c1,ao];refine .bind (WG x ok c.primary) λy hy=> ?_;have hy':Kp x ⟨y.1.now,y.1.servers,y.1.sides,y.1.master,y.1.masterUp,⟨0,0,0⟩,y.1.places⟩:=⟨hy.1,hy.2⟩
 exact .bind (O0 _ hy'.1 ⟨_,to,c.replicas,c.witnesses⟩ ⟨by show c.replicas.length<=_;omega,by show c.witnesses.length<=_;omega⟩) λz hz=> .bind (OU z.1 hz.1) λw hw=> .ret (hy'.trans (hz.trans hw))
end
section
theorem Tt.byte{α:Type}{Q:α->Prop}{b:ByteArray}{i:Nat}{k:UInt8->Option α}(hi:i<b.size)(h: ∀x,Tt Q (k x)):Tt Q ((b[i]?).bind k):=by rw[getElem?_pos b i hi];exact h _
theorem So(b:Int): (Bu ((([b]:List Int).drop 0).take ([b]:List Int).length)).size=1:=rfl
theorem Iv(n:Int)(h:n.natAbs<=1000):Tt (λy=>y.1.size<=1001) (Gp n):=by
 unfold Gp;refine .br (λ_=> .ret (by decide)) λ_=> .bind (.loop (B:=K0) (E:=λe=>e.1.1.size<=1000) (λs=>s.1.2.1.size+s.1.1.natAbs<=1000) (λs=>s.1.1.natAbs) ?_ (by simpa using h)) λy hy=> .br (λ_=> .ip ?_ (.ret ?_)) λ_=> .ret (aX hy (by omega))
 ·rintro⟨⟨n,acc,neg,_⟩,_,_⟩ hs
  have hs:acc.size+n.natAbs<=1000:=hs;refine .br (λh0=> ?_) λ_=> .ret (by show acc.size<=1000;omega);have h0:n≠0:=λe=>by rw[e] at h0;cases h0
  have ha: (Int.tdiv n 10).natAbs=n.natAbs / 10:=Int.natAbs_tdiv n 10;have hw:IntKind.wrap .i64 (Int.tdiv n 10)=Int.tdiv n 10:=vN (by omega) (by omega);dsimp only;rw[hw];refine .br (λ_=> .ip ⟨Nat.one_pos,ay _⟩ (.ip (by rw[So];omega) (.ret ⟨?_,?_⟩))) λ_=> .ip ⟨Nat.one_pos,ay _⟩ (.ip (by rw[So];omega) (.ret ⟨?_,?_⟩))
  all_goals first
   | (show (_++acc).size+(Int.tdiv n 10).natAbs<=1000;rw[ByteArray.size_append,So];omega)
   | (show (Int.tdiv n 10).natAbs<n.natAbs;omega)
 ·show (⟨⟨[45]⟩⟩:ByteArray).size+y.1.1.size<=2 ^ 40;have : (⟨⟨[45]⟩⟩:ByteArray).size=1:=rfl;omega
 ·show ((⟨⟨[45]⟩⟩:ByteArray)++y.1.1).size<=1001;have : (⟨⟨[45]⟩⟩:ByteArray).size=1:=rfl;rw[ByteArray.size_append];omega
theorem aba{o:Op}(h:Y7 o=true): (0<=o.client/\o.client<=2)/\(1<=o.seq/\o.seq<=99)/\(0<=o.object/\o.object<=2)/\(0<=o.value/\o.value<=9)/\(o.kind≠1->0<=o.old/\o.old<=9):=by
 obtain⟨h1,h2,h4⟩:=YD h;have h3:=WY (show EN o=some (true,()) by rw[Nl,h]);refine⟨Eg.1 h1,Eg.1 h2,h3,Eg.1 h4,λhk=> ?_⟩;have h0:EN o=some (true,()):=by rw[Nl,h]
 unfold EN at h0;simp only[EM,ao,h1,h2,h4,Eg.2 h3,df,BK,beq_eq_false_iff_ne.2 hk] at h0;cases hk2: (o.kind==2) with
 |false=>rw[hk2] at h0;cases h0
 |true=>rw[hk2] at h0;simp only[CJ,af,au,and_true] at h0;exact Eg.1 h0
theorem Xi(o:Op):Tt (λy=>y.1.size<=10000) (Mj o):=by
 unfold Mj;rw[Nl,ao,Ef];refine .br (λh=> ?_) λ_=> .ret (by decide);obtain⟨n1,n2,n3,n4,n5⟩:=aba h;have e1: (⟨⟨[46]⟩⟩:ByteArray).size=1:=rfl;have e2: (⟨⟨[32]⟩⟩:ByteArray).size=1:=rfl;have e3: (⟨⟨[119,114,105,116,101,32]⟩⟩:ByteArray).size=6:=rfl;have e4: (⟨⟨[115,119,97,112,32]⟩⟩:ByteArray).size=5:=rfl;refine .bind (Iv _ (by omega)) λa ha=> .ip (by omega) (.bind (Iv _ (by omega)) λb hb=> .ip (by rw[ByteArray.size_append];omega) (.ip (by simp only[ByteArray.size_append];omega) (.br (λ_=> .ip (by simp only[ByteArray.size_append];omega) (.bind (Iv _ (by omega)) λc hc=> .ip (by simp only[ByteArray.size_append];omega) (.ip (by simp only[ByteArray.size_append];omega) (.bind (Iv _ (by omega)) λd hd=> .ip (by simp only[ByteArray.size_append];omega) (.ret ?_))))) λhk=> ?_)))
 ·show ByteArray.size _<=_;simp only[ByteArray.size_append];omega
 ·have n5:=n5 λe=>by rw[e] at hk;cases hk
  refine .ip (by simp only[ByteArray.size_append];omega) (.bind (Iv _ (by omega)) λc hc=> .ip (by simp only[ByteArray.size_append];omega) (.ip (by simp only[ByteArray.size_append];omega) (.bind (Iv _ (by omega)) λd hd=> .ip (by simp only[ByteArray.size_append];omega) (.ip (by simp only[ByteArray.size_append];omega) (.bind (Iv _ (by omega)) λe he=> .ip (by simp only[ByteArray.size_append];omega) (.ret ?_))))));show ByteArray.size _<=_;simp only[ByteArray.size_append];omega
theorem VU(l:List rk)(hl:l.length<=maxLen):Tt (λy=>y.1.size<=1000000) (Li l):=by
 obtain⟨b,b1,b2⟩:=Of hl;unfold Li;rw[b1,ao,Ef];refine .br (λe=> ?_) λ_=> .ret (by decide);have h16:=b2 e;subst e;have hlog:=((Jw l hl).1 b1).2;refine .br (λ_=> .ret (by decide)) λ_=> .bind (.count (B:=K1) (E:=λe=>e.1.1.size<=1000000) l.length (λk (b:ByteArray)=>((l,b,(k:Int),()),(),())) (λk b=>b.size<=k*20000) (λb hb=> .end (DM _) (.ret (by show b.size<=_;omega))) (λk b hk hb=> ?_) ByteArray.empty (bM _)) λy hy=> .ret hy;have sw:=BI hl hk;have e1: (⟨⟨[58]⟩⟩:ByteArray).size=1:=rfl;have e2: (⟨⟨[59]⟩⟩:ByteArray).size=1:=rfl;have hb:b.size<=k*20000:=hb;have hk2:k*20000<=16*20000:=bq _ (by omega);refine .go (DI.2 hk) (.br (λ_=> .ip (by rw[e2];show b.size+1<=_;omega) (.ip (DH k) (.get (tn hk) λe he _=> .bind (Iv _ ?_) λy hy=> ?_))) λ_=> .ip (DH k) (.get (tn hk) λe he _=> .bind (Iv _ ?_) λy hy=> ?_))
 case refine_1|refine_3=>have:=hlog k hk;unfold R9 at this;rw[show l[k]? =some e from he] at this;simp only[ak] at this;have:=Eg.1 this.1;omega
 all_goals
  dsimp only;rw[sw];refine .ip (by first |omega| (simp only[ByteArray.size_append];omega)) (.ip (by simp only[ByteArray.size_append];omega) (.ip (DH k) (.get (tn hk) λe2 _ _=> .bind (Xi e2.op) λz hz=> .ip (by simp only[ByteArray.size_append];omega) (.ret ⟨_,rfl,?_⟩))));simp only[ByteArray.size_append];omega
theorem Xc(b:ByteArray)(hb:b.size<=1000000):Tt T1 (Mi b):=by unfold Mi;exact .bind (.count (B:=LR) (E:=λ_=>True) b.size (λk (n:Int)=>((b,n,(k:Int),()),(),())) (λ_ _=>True) (λ_ _=> .end (DM _) (.ret trivial)) (λk n hk _=> .go (DI.2 hk) (.ip (DH k) (.byte hk λx=> .ret ⟨_,by rw[BI (n:=b.size) (by unfold maxLen;omega) hk],trivial⟩))) 5 trivial) λ_ _=> .ret trivial
theorem XQ(l:List rk)(hl:l.length<=maxLen):Tt (λy=>y.1.length<=l.length+1/\y.1.length<=17) (Ka l):=by
 obtain⟨b,b1,b2⟩:=Of hl;unfold Ka;rw[b1,ao,Ef];refine .br (λe=> ?_) λ_=> .ret ⟨bM _,bM _⟩;have h16:=b2 e;refine .ip (by simp) (.bind (.count (B:=J4) (E:=λe=>e.2.2.1.length<=l.length+1/\e.2.2.1.length<=17) l.length (λk (b:Int×List Int)=>((l,(),b.1,(k:Int),()),(),b.2,())) (λk b=>b.2.length=k+1) (λb hb=> .end (DM _) (.ret (by show b.2.length<=_/\b.2.length<=_;omega))) (λk b hk hb=> ?_) (11,[11]) rfl) λy hy=> .ret hy);have sw:=BI hl hk;refine .go (DI.2 hk) ?_;dsimp only;rw[sw];refine .ip ⟨DH k,by omega,Int.ofNat_le.2 hk⟩ (.bind (VU _ (aX (by rw[cP,co];omega) hl)) λy hy=> .bind (Xc y.1 hy) λz _=> .ip ?_ (.ret ⟨(_,_),rfl,?_⟩))
 ·rw[bJ,cy,hb];omega
 ·rw[bJ,cy,hb]
theorem WH(l:List rk)(k:Int)(hl:l.length<=maxLen):Tt (λy=>y.1≠ -1->0<=k/\k<=(l.length:Int)) (KJ l k):=by unfold KJ;refine .bind (XQ l hl) λy hy=> ?_;rw[vN (n:=(y.1.length:Int)-1) (by omega) (by omega),EM,ao,Ef];refine .br (λh=> ?_) λ_=> .ret λh=>absurd rfl h;have h:=Eg.1 h;exact .ip (by omega) (.get (by omega) λ_ _ _=> .ret λ_=>by omega)
theorem abk(x:qg)(ok:Ez 1048576 x)(a b:Int):Tt (λy=>y.1=true->VC x/\(0<=a/\a<5)/\(0<=b/\b<5)) (J0 x a b):=by
 unfold J0;refine .bind (LK x ok) λv hv=> ?_;rw[Ef];refine .br (λh=> ?_) λ_=> .ret nofun;have vc:=hv h;have h5:=IP (Ep ok.2.1) vc.sides
 have side:Tt (λy:Bool×Unit=>y.1=true->(0<=a/\a<5)/\(0<=b/\b<5)) (ES x.sides a b):=by unfold ES;simp only[vc.sides,EM,ao,CJ];refine .br (λha=> .br (λhb=> ?_) λ_=> .ret nofun) λ_=> .ret nofun;have ha:=Eg.1 ha;have hb:=Eg.1 hb;exact .ip ha.1 (.get (by omega) λ_ _ _=> .ip hb.1 (.get (by omega) λ_ _ _=> .ret λ_=>by omega))
 refine .bind side λy hy=> ?_;rw[Ef];refine .br (λh=> ?_) λ_=> .ret nofun;obtain⟨ha,hb⟩:=hy h;refine .br (λ_=> .ret nofun) λ_=> .srv ok vc ha λs _ s2 _=> ?_;obtain⟨n,n1,_⟩:=KX s.config a (Ei s2.1);obtain⟨m,m1,_⟩:=KX s.config b (Ei s2.1);rw[n1,ao,m1];have good: ∀d:Bool,Tt (λy:Bool×Unit=>y.1=true->VC x/\(0<=a/\a<5)/\(0<=b/\b<5)) (some (d,())):=λd=> .ret λ_=>⟨vc,ha,hb⟩
 exact .br (λ_=> .srv ok vc hb λ_ _ _ _=> .br (λ_=> .br (λ_=> .br (λ_=>good _) λ_=>good _) λ_=> .br (λ_=> .br (λ_=>good _) λ_=>good _) λ_=>good _) λ_=>good _) λ_=>good _
theorem abC(x:qg)(ok:Ez 1048576 x)(a b:Int):Tt (λy=>0<=y.1->VC x/\(0<=a/\a<5)/\(0<=b/\b<5)/\ ∃s l,x.servers[a.toNat]? =some s/\EB s=some (l,())/\l.length<=16/\y.1<=(l.length:Int)) (HO x a b):=by
 unfold HO;refine .bind (abk x ok a b) λv hv=> ?_;rw[Ef];refine .br (λh=> ?_) λ_=> .ret λh=>absurd h (by decide);obtain⟨vc,ha,hb⟩:=hv h;refine .srv ok vc ha λs s1 s2 s3=> ?_;obtain⟨⟨l,_⟩,l1,l2⟩:=Ps s s2 (UQ s2 s3);have l2:l.length<=16:=l2;rw[l1,ao];refine .srv ok vc hb λt _ t2 _=> .srv ok vc hb λu _ u2 _=> .bind (Q:=T1) ?_ λd _=> .bind (Q:=λy=>y.1=true->(t.learned.length:Int)<=(l.length:Int)) ?_ λp hp=> ?_
 ·unfold JE;exact .bind (WH _ _ (Ep u2.2.2)) λ_ _=> .ret trivial
 ·unfold Ke;refine .br (λhd=> .bind (WH l _ (by unfold maxLen;omega)) λy hy=> .ret λe=> ?_) λ_=> .ret nofun;have hd:d.1≥0:=of_decide_eq_true hd;have e:=eq_of_beq e;exact (hy (by omega)).2
 ·have tl:=t2.2.2;rw[Ef];refine .br (λe=> .ret λ_=>⟨vc,ha,hb,s,l,s1,l1,l2,?_⟩) λ_=> .ret λ_=>⟨vc,ha,hb,s,l,s1,l1,l2,?_⟩
  ·have:=hp e;show IntKind.wrap .i64 ((l.length:Int)-(t.learned.length:Int))<=_;rw[vN (by omega) (by omega)];omega
  ·show IntKind.wrap .i64 ((l.length:Int)-0)<=_;rw[vN (by omega) (by omega)];omega
theorem aaN(x:qg)(ok:Ez 1048576 x)(a b n:Int):Tt (λy=>Kp x y.1) (HP x a b n):=by
 unfold HP;rw[(EL x ok).1,ao];refine .bind (abC x ok a b) λy hy=> .br (λ_=> .ret (.self ok)) λh=> ?_;have h: ¬y.1<0:=of_decide_eq_false h;obtain⟨vc,ha,hb,s,l,s1,l1,l2,le⟩:=hy (by omega);rw[EM,ao,Ef];refine .br (λw=> .ip ha.1 ?_) λ_=> .ret (.self ok);have w:=Eg.1 w;rw[s1,ao,l1,ao];dsimp only;have hm: (if n<y.1 then n else y.1)<=y.1/\0<=(if n<y.1 then n else y.1):=by split<;>omega
 generalize (if n<y.1 then n else y.1)=m at hm;rw[vN (n:=(l.length:Int)-y.1) (by omega) (by omega),vN (n:=(l.length:Int)-y.1+m) (by omega) (by omega)]
 have hl: ((l.drop (0+(0:Int).toNat)).take (((l.length:Int)-y.1+m).toNat-(0:Int).toNat)).length<=1048576:=by rw[cP,co];omega
 refine .ip (by omega) (.ip (by omega) ?_);rw[PO hl,ao];exact .at vc.len hb λu _ hu=> .ret ((Kp.self ok).set (s:=⟨u.up,u.intact,u.version,u.epoch,u.config,u.first,u.log,u.commit,(l.drop (0+(0:Int).toNat)).take (((l.length:Int)-y.1+m).toNat-(0:Int).toNat)⟩) ⟨(ok.1.2 u hu).1,(ok.1.2 u hu).2.1,hl⟩ _)
theorem X7{x y:qg}{n:Int}{r:Option (qg×Int×Unit)}(h:r=some (y,n,())/\Ez 1048576 y/\y.servers.length=x.servers.length):Tt (λz=>Kp x z.1) r:=⟨_,h.1,h.2⟩
theorem abU(x:qg)(ok:Ez 1048576 x)(e:wN):Tt (λy=>Kp x y.1) (KN x e):=by obtain⟨_,_,c1⟩:=aaQ x ok e.server;obtain⟨_,_,c2⟩:=YN x ok e.server;obtain⟨_,_,c3⟩:=abE x ok e.server;obtain⟨_,_,c4⟩:=abH x ok e.server e.n;obtain⟨_,_,c5⟩:=YB x ok e.n;unfold KN;refine .br (λ_=> .bind (YL x ok _ _) λy hy=> .ret hy) λ_=> .br (λ_=> .bind (WX x ok _ _) λn hn=> ?_) λ_=> .br (λ_=> .bind (OU x ok) λy hy=> .ret hy) λ_=> .br (λ_=> .bind (X7 c1) λy hy=> .ret hy) λ_=> .br (λ_=> .bind (X7 c2) λy hy=> .ret hy) λ_=> .br (λ_=> .bind (X7 c3) λy hy=> .ret hy) λ_=> .br (λ_=> .bind (X7 c4) λy hy=> .ret hy) λ_=> .br (λ_=> .bind (X7 c5) λy hy=> .ret hy) λ_=> .br (λ_=> .bind (aaE x ok _) λy hy=> .ret hy) λ_=> .br (λ_=> .bind (aaN x ok _ _ _) λy hy=> .br (λ_=> .ret hy) λ_=> .ret hy) λ_=> .br (λ_=> .bind (Y1 x ok _) λy hy=> .ret hy) λ_=> .br (λ_=> .bind (VT x ok _) λy hy=> .ret hy) λ_=> .br (λ_=> .bind (ZP x ok _) λy hy=> .ret hy) λ_=> .bind (ZF x ok _ _) λy hy=> .ret hy;rw[Ef];refine .br (λ_=> .bind (O0 x ok _ hn) λy hy=> .ret hy) λ_=> ?_;rw[(EL x ok).1];exact .ret (.self ok)
theorem abX(k:Int):Tt T1 (Nu k):=by
 unfold Nu
 repeat first |exact .ret trivial|refine .br (λ_=> ?_) λ_=> ?_
theorem Y2(e:wN):Tt T1 (I8 e):=by
 unfold I8;simp only[EM,ao,Nl];refine .br (λ_=> .ret trivial) λ_=> .br (λ_=> .ret trivial) λ_=> .br (λ_=> .ret trivial) λ_=> .br (λ_=> .ret trivial) λ_=> .bind (abX _) λ_ _=> ?_
 repeat first |exact .ret trivial|refine .br (λ_=> ?_) λ_=> ?_
theorem XF(x:qg)(ok:Ez 1048576 x)(e:wN):Tt (λy=>Kp x y.1) (JO x e):=by unfold JO;rw[(EL x ok).1];refine .bind (LK x ok) λ_ _=> .br (λ_=> .ret (Kp.self ok)) λ_=> .bind (Y2 e) λ_ _=> .br (λ_=> .ret (Kp.self ok)) λ_=> .br (λ_=> .bind (Zd x ok _ _) λy hy=> .ret hy) λ_=> .br (λ_=> ?_) λ_=> .bind (abU x ok e) λy hy=> .ret hy;exact .bind (Q:=λy=>Kp x y.1) ⟨_,rfl,Kp.self ok⟩ λy hy=> .bind (Wi x ok _ _) λ_ _=> .ret hy
theorem Wz(x:qg)(ok:Ez 1048576 x)(l:List wN)(hl:l.length<=1048576):Tt (λy=>Kp x y.1/\y.2.1.length<=l.length) (Ip x l):=by
 have lm:=Ep hl;unfold Ip;rw[(EL x ok).1,ao];refine .bind (.count (B:=Jq) (E:=λe=> ∃ (c:qg) (r:List wR),Kp x c/\r.length<=l.length/\e=(((),(),(),()),(fz,fc c,()),r,c.servers,c.sides,c.master.configs,c.places,())) l.length (λk (b:qg×List wR)=>((l,(),(),(),(k:Int),()),(fz,fc b.1,()),b.2,b.1.servers,b.1.sides,b.1.master.configs,b.1.places,())) (λk b=>Kp x b.1/\b.2.length<=k) (λb hb=> .end (DM _) (.ret ⟨b.1,b.2,hb.1,hb.2,rfl⟩)) (λk b hk hb=> .go (DI.2 hk) (.br (λ_=> .ip (DH k) (.get (tn hk) λe _ _=> .bind (XF b.1 hb.1.1 e) λy hy=> .ip ?_ (.ret ⟨(y.1,b.2++ [y.2.1]),by rw[BI lm hk],hb.1.trans hy,?_⟩))) λ_=> .ret ⟨b.1,b.2,hb.1,by omega,rfl⟩)) (x,[]) ⟨.self ok,ay _⟩) ?_
 ·show (b.2++ [y.2.1]).length*32<=2 ^ 40;rw[bJ,cy];omega
 ·rw[bJ,cy];omega
 ·rintro _ ⟨c,r,hc,hr,rfl⟩
  exact .ret ⟨hc,hr⟩
end
section
section
variable [dE]
theorem Tt.dn{α β:Type}{Q:α->Prop}{Q':β->Prop}{r:Option (List qh×α)}{k:List qh×α->Option β}(h:Dn Q r)(hk: ∀c a,I4 c->Q a->Tt Q' (k ([c],a))):Tt Q' (r.bind k):=by obtain⟨c,a,rfl,h1,h2⟩:=h;exact hk c a h1 h2
theorem abv{α:Type}{Q:α->Prop}{r:Option (List qh×α)}(h:Tt (λy=> ∃c,y.1= [c] /\I4 c/\Q y.2) r):Dn Q r:=by obtain⟨⟨_,a⟩,rfl,c,rfl,h1,h2⟩:=h;exact⟨c,a,rfl,h1,h2⟩
omit [dE] in
theorem YF{l:List uO}(h5:l.length=5)(h: ∀p∈l,(0<=p.rack/\p.rack<=9)/\(0<=p.capacity/\p.capacity<=9)/\0<=p.load/\p.load<=99):Fb l=some (true,()):=by
 have lm:l.length<=maxLen:=by unfold maxLen;omega
 have fA:Tt (λy:Bool×Unit=>y.1=true) (Fb l):=by
  unfold Fb;refine .bind (.count (B:=HL) (E:=Sum.elim (λ_=>False) λe=>e.1.1=l) l.length (λk (_:Unit)=>((l,(k:Int),()),(),())) (λ_ _=>True) (λ_ _=> .end (DM _) (.ret rfl)) (λk _ hk _=> .go (DI.2 hk) (.ip (DH k) (.get (tn hk) λp _ hp=> ?_))) () trivial) λy hy=> ?_
  ·obtain⟨h1,_⟩:=h p hp;rw[EM,Eg.2 h1,ao];refine .br (λh=>by cases h) λ_=> .ip (DH k) (.get (tn hk) λq _ hq=> ?_);obtain⟨_,h2,_⟩:=h q hq;rw[EM,Eg.2 h2,ao];refine .br (λh=>by cases h) λ_=> .ip (DH k) (.get (tn hk) λr _ hr=> ?_);obtain⟨_,_,h3⟩:=h r hr;rw[EM,Eg.2 h3,ao];exact .br (λh=>by cases h) λ_=> .ret ⟨(),by rw[BI lm hk],trivial⟩
  ·cases y with
   |inl y=>exact hy.elim
   |inr y=>refine .ret ?_;show ((y.1.1.length:Int)==5)=true;rw[show y.1.1=l from hy,h5];rfl
 obtain⟨⟨b,_⟩,e,rfl⟩:=fA;exact e
theorem ZB{c:qh}(h:I4 c):Dn (λy:List uO×Unit=>y.1.length=5/\Fb y.1=some (true,())) (Mr [c]):=by
 refine abv ?_;unfold Mr;refine .bind (.count (B:=LS) (E:=λe=> ∃c,e.2.2.1= [c] /\I4 c/\e.2.2.2.1.length=5/\Fb e.2.2.2.1=some (true,())) 5 (λk (b:qh×List uO)=>(((),(),(k:Int),()),(),[b.1],b.2,())) (λk b=>I4 b.1/\b.2.length=k/\ ∀p∈b.2,(0<=p.rack/\p.rack<=9)/\(0<=p.capacity/\p.capacity<=9)/\0<=p.load/\p.load<=99) (λb hb=> .end (DM _) (.ret ⟨b.1,rfl,hb.1,hb.2.1,YF hb.2.1 hb.2.2⟩)) (λk b hk hb=> ?_) (c,[]) ⟨h,rfl,nofun⟩) λy hy=> .ret hy;obtain⟨h1,h2,h3⟩:=hb;refine .go (show (k:Int)<5 by omega) (.dn (O1 h1 (n:=4) (by omega)) λc1 x g1 hx=> .ip rfl (.dn (O1 g1 (n:=4) (by omega)) λc2 y g2 hy=> .ip rfl (.dn (O1 g2 (n:=4) (by omega)) λc3 z g3 hz=> .ip rfl (.ip ?_ (.ret ⟨(c3,b.2++ [⟨x.1,1+y.1,z.1⟩]),?_,g3,by rw[bJ,cy,h2],λp hp=> ?_⟩)))))
 ·rw[bJ,cy,show List.length _=k from h2];omega
 ·dsimp only;rw[BI (n:=5) (by decide) hk,vN (n:=1+y.1) (by omega) (by omega)]
 ·rcases bC.1 hp with hp|hp
  ·exact h3 p hp
  ·rw[aL.1 hp];show (0<=x.1/\x.1<=9)/\(0<=1+y.1/\1+y.1<=9)/\0<=z.1/\z.1<=99;omega
omit [dE] in
theorem ZA(v:Int):Tt (λy=>EA 1048576 y.1) (Lm v):=by
 unfold Lm;rw[EM,ao];have ok: ∀v:Int,EA 1048576 ⟨true,true,v,0,⟨0,0,[],[]⟩,0,[],0,[]⟩:=λ_=>⟨⟨bM _,bM _⟩,bM _,bM _⟩
 exact .br (λ_=> .ret (ok _)) λ_=> .ret (ok _)
omit [dE] in
theorem aa8(l:List uO)(hl:l.length<=1048576):Tt (λy=>Ez 1048576 y.1/\(Fb l=some (true,())->y.1.servers.length=5)) (Iy l):=by
 obtain⟨v,v1,_⟩:=KF l (Ep hl);unfold Iy;rw[v1,ao,Ef];refine .br (λe=> .ip (by decide) (.ip ?_ (.bind (.count (B:=I5) (E:=λe=> ∃S:List qj,S.length=5/\(∀s∈S,EA 1048576 s)/\e=(((),(),()),(fz,(0,(),(),(),0,3,0,0,0,(),()),()),S,List.replicate (5:Int).toNat (0:Int),[] ++l,())) 5 (λk (S:List qj)=>(((),(),(k:Int),()),(fz,(0,(),(),(),0,3,0,0,0,(),()),()),S,List.replicate (5:Int).toNat (0:Int),[] ++l,())) (λk S=>S.length=k/\ ∀s∈S,EA 1048576 s) (λS hS=> .end (DM _) (.ret ⟨S,hS.1,hS.2,rfl⟩)) (λk S hk hS=> .go (show (k:Int)<5 by omega) (.bind (ZA 1) λs hs=> .ip ?_ (.ret ⟨S++ [s.1],by rw[BI (n:=5) (by decide) hk],by rw[bJ,cy,hS.1],λt ht=> ?_⟩))) [] ⟨rfl,nofun⟩) ?_))) λ_=> .ret ⟨⟨⟨bM _,nofun⟩,bM _,⟨bM _,nofun⟩,bM _⟩,λe=>by simp_all⟩
 ·rw[bF];omega
 ·rw[bJ,cy,show List.length _=k from hS.1];omega
 ·exact (bC.1 ht).elim (hS.2 t) λe=>by rw[aL.1 e];exact hs
 ·rintro _ ⟨S,h5,hS,rfl⟩
  exact .ret ⟨⟨⟨by show S.length<=_;omega,hS⟩,by show (List.replicate (5:Int).toNat (0:Int)).length<=_;decide,⟨bM _,nofun⟩,hl⟩,λ_=>h5⟩
omit [dE] in
omit [dE] in
omit [dE] in
omit [dE] in
omit [dE] in
end
end
section
theorem Tt.tru{r:Option (Bool×Unit)}(h:Tt (λy=>y.1=true) r):r=some (true,()):=by obtain⟨⟨b,_⟩,e,rfl⟩:=h;exact e
theorem Tt.is{α:Type}{Q:α->Prop}{r:Option α}{a:α}(h:Tt Q r)(e:r=some a):Q a:=by obtain⟨b,h1,h2⟩:=h;rw[e] at h1;cases h1;exact h2
end
section
abbrev upS(s:qj)(b:Bool):qj:=⟨b,s.intact,s.version,s.epoch,s.config,s.first,s.log,s.commit,s.learned⟩
end
section
theorem XN(x:qg)(ok:Ez 1048576 x)(hv:Ee x=some (true,())){id:Int}{S:List Int}(hS:Fn x id=some (S,()))(h5:S.length<=5)(hr: ∀z∈S,0<=z/\z<5):Tt (λy=>(S= [] ->y.1= -1)/\(S≠ [] ->y.1∈S)) (FK x id):=by
 have vc:=Es ok hv;have lm:S.length<=maxLen:=by unfold maxLen;omega
 unfold FK;rw[hS,ao];refine .bind (.count (B:=F8) (E:=λe=>(S= [] ->e.1.1= -1)/\(S≠ [] ->e.1.1∈S)) S.length (λk (b:Int)=>(((),b,(),(k:Int),()),(fx x,()),(S,()))) (λk b=>(k=0/\b= -1)\/(0<k/\b∈S)) (λb hb=> .end (DM _) (.ret ⟨λh=> ?_,λh=> ?_⟩)) (λk b hk hb=> ?_) (-1) (.inl ⟨rfl,rfl⟩)) λe h=> .ret h
 ·rcases hb with hb|hb
  ·exact hb.2
  ·rw[h] at hb;exact absurd hb.1 (dA _)
 ·rcases hb with hb|hb
  ·exact absurd (ba hb.1) h
  ·exact hb.2
 ·have c1: (k:Int)< (S.length:Int):=by omega
  have c2: (0:Int)<=(k:Int)/\(k:Int)< (S.length:Int):=by omega
  have hm:=DJ hk;have hz:=hr _ hm;have hg:S[k]? =some S[k] :=aq hk;generalize S[k] =z at hz hg hm;obtain⟨s,s1,s2,_⟩:=HY ok vc hz;simp only[F8,fx,C1,B3,if_pos c1,if_pos c2,DG,hg,ao,if_pos hz.1,s1,BI lm hk];have new: ∃b',(((),z,(),((k+1:Nat):Int),()),(fx x,()),S,())=(((),b',(),((k+1:Nat):Int),()),(fx x,()),S,())/\((k+1=0/\b'= -1)\/(0<k+1/\b'∈S)):=⟨z,rfl,.inr ⟨Nat.succ_pos k,hm⟩⟩
  rcases hb with ⟨_,rfl⟩| ⟨_,hb⟩
  ·exact .ret new
  ·have hb2:=hr _ hb;obtain⟨t,t1,_⟩:=HY ok vc hb2;simp only[if_neg (show ¬b<0 by omega),if_pos hb2.1,t1,ao];split
   ·exact .ret new
   ·exact .ret ⟨b,rfl,.inr ⟨Nat.succ_pos k,hb⟩⟩
theorem P4(x:qg)(ok:Ez 1048576 x): ∃c d,Ej x.master=some (c,d,())/\Fg x.master=some (c,d,())/\FX maxLen c:=by obtain⟨c,d,d1,d2,d3⟩:=Mc x.master x.master.activated ok.2.2.1;unfold Ej Fg;rw[d1,d2];exact⟨c,d,rfl,rfl,d3⟩
theorem ab3(x:qg)(ok:Ez 1048576 x)(id:Int)(h24:HB x id=some (false,()))(hh:Fd x id=some (false,())):
  Fn x id=some ([],())/\G6 x id=some ([],())/\Fo x id=some ([],false,())/\HH x id=some ([],false,())/\Fy x id=some ([],false,())/\Im x id=some ([],false,())/\FK x id=some (-1,())/\HF x id=some (-1,()):=by
 obtain⟨v,v1,v2⟩:=Fp x ok;obtain⟨c,d,d1,d2,_⟩:=P4 x ok
 have hw:v=false\/GG id 0 4=false:=by
  unfold HB at h24;simp only[v1,EM,ao] at h24;cases v with
  |false=>exact .inl rfl
  |true=>simp only[CJ,af,au,and_true] at h24;exact .inr h24
 have a1:Fn x id=some ([],()):=by
  unfold Fn;rw[d1,ao]
  rw[show Kr ((id,(),(),(),d,0,()),(fx x,(c.epoch,c.primary,(),(),()),()),([],c.replicas,c.witnesses,()))=some (((),()),(),([],())) from lM (by
   simp only[FS,fx,C1,show (⟨x.now,x.servers,x.sides,(⟨x.master.configs,x.master.activated⟩:jY),x.masterUp,(⟨x.lease.epoch,x.lease.holder,x.lease.ends⟩:uL),x.places⟩:qg)=x from rfl,v1,EM,ao];split
   ·cases d with
    |false=>rfl
    |true=>
     rcases hw with rfl|hw
     ·rfl
     ·rw[hw];cases v<;>rfl
   ·rfl)]
  rfl
 have a3:Fo x id=some ([],false,()):=by
  unfold Fo;rw[d1,ao]
  rw[show Ks ((id,(),(),false,(),d,0,()),(fx x,(c.epoch,c.primary,(),(),()),()),([],c.replicas,c.witnesses,()))=some (((),false,()),(),([],())) from lM (by
   simp only[Fv,fx,C1,show (⟨x.now,x.servers,x.sides,(⟨x.master.configs,x.master.activated⟩:jY),x.masterUp,(⟨x.lease.epoch,x.lease.holder,x.lease.ends⟩:uL),x.places⟩:qg)=x from rfl,v1,EM,ao];split
   ·cases d with
    |false=>rfl
    |true=>
     rcases hw with rfl|hw
     ·rfl
     ·rw[hw];cases v<;>rfl
   ·rfl)]
  rfl
 have a2:G6 x id=some ([],()):=by unfold G6;rw[d2,ao,hh,ao];cases d<;>rfl
 refine⟨a1,a2,a3,?_,?_,?_,?_,?_⟩
 ·unfold HH;rw[d2,ao,hh,ao];cases d<;>rfl
 ·unfold Fy;rw[v1,EM,ao,ao];rcases hw with rfl|hw
  ·rfl
  ·rw[hw];cases v<;>rfl
 ·unfold Im;rw[hh];rfl
 ·unfold FK;rw[a1,ao,show Mu (((),-1,(),0,()),(fx x,()),([],()))=some ((-1,()),(),()) from lM rfl];rfl
 ·unfold HF;rw[a2,ao,show Mt (((),-1,(),(([]:List Int).length:Int),0,()),(fx x,()),([],()))=some ((-1,()),(),()) from lM rfl];rfl
theorem SN(x:qg)(ok:Ez 1048576 x)(id:Int): ∃S n l b w f,Fn x id=some (S,())/\G6 x id=some (S,())/\FK x id=some (n,())/\HF x id=some (n,())/\Fy x id=some (l,b,())/\Im x id=some (l,b,())/\Fo x id=some (w,f,())/\HH x id=some (w,f,())/\
  S.length<=5/\l.length<=1048576/\w.length<=1048576/\(S≠ [] ->b=true/\n∈S)/\(b=false->S= [] /\f=false):=by
 obtain⟨g,g1,g2,g3⟩:=RK x id ok;cases g with
 |false=>obtain⟨a1,a2,a3,a4,a5,a6,a7,a8⟩:=ab3 x ok id g1 g2;exact⟨[],-1,[],false,[],false,a1,a2,a7,a8,a5,a6,a3,a4,bM _,bM _,bM _,λh=>absurd rfl h,λ_=>⟨rfl,rfl⟩⟩
 |true=>
  obtain⟨hv,hid⟩:=g3 rfl;obtain⟨S,s1,s2,s3,s4⟩:=PL ok ok hv hv (.refl x) hid;obtain⟨n,n1,n2,n3⟩:=RH ok ok hv hv (.refl x) hid;obtain⟨l,b,l1,l2,l3⟩:=TU ok ok hv hv (.refl x) hid;obtain⟨w,f,w1,w2,w3⟩:=SQ ok ok hv hv (.refl x) hid;have hn:=(XN x ok hv s1 s3 s4).is n1
  have hb: (S≠ [] ->b=true)/\(b=false->f=false):=by
   unfold Fy at l1;simp only[hv,EM,Eg.2 (show 0<=id/\id<=4 by omega),n1,w1,ao,Ef,CJ] at l1;cases h:x.master.activated==0 with
   |true=>rw[h] at l1;simp only[CJ,af,au] at l1;rw[<-l1.2.1];exact⟨λ_=>rfl,nofun⟩
   |false=>
    rw[h] at l1;simp only[BK,C1] at l1;by_cases hn0:n≥0
    ·obtain⟨t,t1,t2,_⟩:=HY ok (Es ok hv) (by omega:0<=n/\n<5);rw[if_pos hn0,B3,if_pos hn0,t1,ao,(IX _ t2.2.1).1,ao] at l1;simp only[af,au] at l1;rw[<-l1.2.1];exact⟨λ_=>rfl,nofun⟩
    ·rw[if_neg hn0] at l1;simp only[af,au] at l1;refine⟨λh=> ?_,λh=>l1.2.1.trans h⟩;exact absurd (s4 _ (hn.2 h)).1 hn0
  refine⟨S,n,l,b,w,f,s1,s2,n1,n2,l1,l2,w1,w2,s3,l3,by omega,λh=>⟨hb.1 h,hn.2 h⟩,λh=>⟨?_,hb.2 h⟩⟩;exact Classical.byContradiction λh2=>by rw[hb.1 h2] at h;cases h
end
section
theorem ZI(x:qg)(ok:Ez 1048576 x){a b:Int}(ha: ¬ (0<=a/\a<5)):ES x.sides a b=some (false,())/\HN x.sides a b=some (false,()):=by
 obtain⟨v,s1,s2⟩:=Le x.sides (Ep ok.2.1)
 have wa:GG a 0 4=false:=by
  cases h:GG a 0 4 with
  |false=>rfl
  |true=>exact absurd (by have:=Eg.1 h;omega) ha
 unfold ES HN;rw[s1,s2];simp only[EM,Jo,wa,ao];cases v<;>exact⟨rfl,rfl⟩
theorem ZG(x:qg)(ok:Ez 1048576 x){id:Int}(e:Int)(hid: ¬ (0<=id/\id<5)):E0 x id e=some (x,())/\GK x id e=some (x,()):=by
 obtain⟨v,v1,v2⟩:=Fp x ok;obtain⟨c,d,d1,d2,d3⟩:=P4 x ok;obtain⟨m,m1,m2,m3,m4,m5,_⟩:=Hi c d3;have mm:m.length<=maxLen:=by unfold maxLen;omega
 unfold E0 GK;simp only[(EL x ok).1,(EL x ok).2,d1,d2,v1,v2,EM,Jo,ao,Ef];cases v with
 |false=>exact⟨rfl,rfl⟩
 |true=>
 have vc:=Es ok v1;cases d with
 |false=>exact⟨rfl,rfl⟩
 |true=>
 cases GG e 1 (x.master.configs.length:Int) with
 |false=>exact⟨rfl,rfl⟩
 |true=>
  obtain⟨_,_,k1,k2⟩:=MZ (B1:=Ff) (B2:=FU) m.length
   (λk (_:Unit)=>((id,e,(),(),(),(),(k:Int),()),(fx x,fz,fc x,()),(m,x.servers,x.sides,x.master.configs,x.places,())))
   (λk (_:Unit)=>((id,e,(),(),(),(),(m.length:Int),(k:Int),()),(fx x,fz,fc x,()),(m,x.servers,x.sides,x.master.configs,x.places,())))
   (λ_ _=>True)
   (λ_=>(((),(),()),(fz,fc x,()),(x.servers,x.sides,x.master.configs,x.places,())))
   (λ_=>(((),(),()),(fz,fc x,()),(x.servers,x.sides,x.master.configs,x.places,())))
   (λ_ _=>by simp only[Ff,FU,C1];exact⟨if_neg (by omega),if_neg (by omega)⟩)
   (λk _ hk _=>by
     have c1: (k:Int)< (m.length:Int):=by omega
     have c2: (0:Int)<=(k:Int)/\(k:Int)< (m.length:Int):=by omega
     have hz:=m4 _ (DJ hk);have hg:m[k]? =some m[k] :=aq hk;generalize m[k] =z at hz hg;obtain⟨s,s1,s2,_⟩:=HY ok vc hz;obtain⟨h1,h2⟩:=ZI x ok (b:=z) hid;have c3:0<=z/\z< (x.servers.length:Int):=by rw[vc.len];exact hz
     refine⟨(),?_,?_,trivial⟩
     ·simp only[Ff,fx,C1,B3,if_pos c1,if_pos c2,DG,hg,ao,if_pos hz.1,s1,h1,BI mm hk,BK];cases s.up<;>rfl
     ·simp only[FU,fx,C1,B3,if_pos c1,if_pos c2,DG,hg,ao,if_pos c3,s1,h2,BI mm hk,BK];cases s.up<;>rfl)
   () trivial
  simp only[CJ,m1,m2,ao];rw[show LC ((id,e,(),(),(),(),0,()),(fx x,fz,fc x,()),(m,x.servers,x.sides,x.master.configs,x.places,()))=_ from k1,show LB ((id,e,(),(),(),(),(m.length:Int),0,()),(fx x,fz,fc x,()),(m,x.servers,x.sides,x.master.configs,x.places,()))=_ from k2];exact⟨rfl,rfl⟩
theorem aaH(x:qg)(ok:Ez 1048576 x)(id e:Int): ∃y,E0 x id e=some (y,())/\GK x id e=some (y,())/\Ez 1048576 y/\(Ee x=some (true,())->Ee y=some (true,())/\W8 x y/\ ∃S,y=GH x S):=by
 by_cases hid:0<=id/\id<5
 ·obtain⟨v,v1,v2⟩:=Fp x ok;cases v with
  |true=>obtain⟨S,a1,a2,a3,a4,a5,_⟩:=Q4 x ok v1 (e:=e) hid;exact⟨_,a1,a2,a3,λ_=>⟨a4,a5,S,rfl⟩⟩
  |false=>
   obtain⟨c,d,d1,d2,_⟩:=P4 x ok;refine⟨x,?_,?_,ok,λh=>by rw[v1] at h;cases h⟩
   ·unfold E0;simp only[(EL x ok).1,d1,v1,ao,Ef];rfl
   ·unfold GK;simp only[(EL x ok).2,d2,v2,ao,Ef];rfl
 ·obtain⟨a1,a2⟩:=ZG x ok e hid;exact⟨x,a1,a2,ok,λh=>⟨h,.refl x,x.servers,rfl⟩⟩
theorem ZH(s:qj)(e:Int)(h:EA 1048576 s)(h0:0<=s.epoch)(he:1<=e/\e<=20): ∃ep b,Gh s e=some (Ho s ep,b,())/\e<=ep:=by
 unfold Gh;simp only[(K4 s h).1,EM,Eg.2 he,ao,Ef,CJ,C1];by_cases h1:e<=s.epoch
 ·rw[if_pos h1];exact⟨s.epoch,false,rfl,h1⟩
 ·rw[if_neg h1,if_neg (by omega)];exact⟨e,true,rfl,cU e⟩
theorem abj(x:qg)(ok:Ez 1048576 x)(hv:Ee x=some (true,())){id e:Int}{c:nF}(hc:Ej x.master=some (c,true,()))(hcc:FX maxLen c)(he:1<=e/\e<=(x.master.configs.length:Int)){M:List Int}(hM:EO c=some (M,()))(hr: ∀z∈M,0<=z/\z<5)(hl:M.length<=10):
  Tt (λy=> ∀z∈M,∀s,x.servers[z.toNat]? =some s->s.up=true->ES x.sides id z=some (true,())-> ∀t,y.1.servers[z.toNat]? =some t->e<=t.epoch) (E0 x id e):=by
 have vc:=Es ok hv;have hml:=TP ok.2.2.1 vc.ml;have mm:M.length<=maxLen:=by unfold maxLen;omega
 unfold E0;simp only[(EL x ok).1,hc,hv,EM,Eg.2 he,hM,ao,Ef,CJ]
 refine .bind (.count (B:=Ff) (E:=λq=> ∀z∈M,∀s,x.servers[z.toNat]? =some s->s.up=true->ES x.sides id z=some (true,())-> ∀t,q.2.2.1[z.toNat]? =some t->e<=t.epoch) M.length
  (λk (S:List qj)=>((id,e,(),(),(),(),(k:Int),()),(fx x,fz,fc x,()),(M,S,x.sides,x.master.configs,x.places,())))
  (λk S=>S.length=5/\ ∀j z,j<k->M[j]? =some z-> ∀s,x.servers[z.toNat]? =some s->s.up=true->ES x.sides id z=some (true,())-> ∀t,S[z.toNat]? =some t->e<=t.epoch)
  (λS hS=> .end (DM _) (.ret λz hz=> ?_)) (λk S hk hS=> ?_) x.servers ⟨vc.len,λj z h=>absurd h (DV j)⟩) λq hq=> .ret hq
 ·obtain⟨j,hj,rfl⟩:=aU hz;exact hS.2 j _ hj (aq hj)
 ·have c1: (k:Int)< (M.length:Int):=by omega
  have c2: (0:Int)<=(k:Int)/\(k:Int)< (M.length:Int):=by omega
  have hz:=hr _ (DJ hk);have hg:M[k]? =some M[k] :=aq hk;generalize M[k] =z at hz hg;obtain⟨s,s1,s2,s3⟩:=HY ok vc hz;have c3:0<=z/\z< (S.length:Int):=by rw[hS.1];exact hz
  have hlt:z.toNat<S.length:=by omega
  obtain⟨_,_,_,_,_,_,_,e0,_⟩:=Gk s2 s3;obtain⟨ep,b,q1,q2⟩:=ZH s e s2 e0 ⟨he.1,by omega⟩
  have keep: (s.up=true->ES x.sides id z=some (true,())->False)->S.length=5/\ ∀j z,j<k+1->M[j]? =some z-> ∀s,x.servers[z.toNat]? =some s->s.up=true->ES x.sides id z=some (true,())-> ∀t,S[z.toNat]? =some t->e<=t.epoch:=λhn=>⟨hS.1,λj z' hj hz' s' hs' hu hsd t ht=>by
   by_cases hjk:j=k
   ·subst hjk;rw[hg] at hz';obtain rfl:=Option.some.inj hz';rw[s1] at hs';obtain rfl:=Option.some.inj hs';exact (hn hu hsd).elim
   ·exact hS.2 j z' (by omega) hz' s' hs' hu hsd t ht⟩
  obtain⟨sd,sd1,_⟩:=SK ok vc id z;simp only[Ff,fx,C1,B3,if_pos c1,if_pos c2,DG,hg,ao,if_pos hz.1,if_pos c3,s1,sd1,aq hlt,q1,BI mm hk];cases hu:s.up with
  |false=>exact .ret ⟨S,rfl,keep λh=>by rw[hu] at h;cases h⟩
  |true=>
   cases hd:sd.1 with
   |false=>exact .ret ⟨S,rfl,keep λ_ h=>by rw[sd1] at h;rw[Option.some.inj h] at hd;cases hd⟩
   |true=>
    refine .ret ⟨S.set z.toNat (Ho s ep),rfl,by rw[DL];exact hS.1,λj z' hj hz' s' hs' hu' hsd t ht=> ?_⟩;by_cases hzz:z.toNat=z'.toNat
    ·rw[<-hzz,DK hlt] at ht;rw[<-Option.some.inj ht];exact q2
    ·rw[DN hzz] at ht;by_cases hjk:j=k
     ·subst hjk;rw[hg] at hz';exact absurd (congrArg Int.toNat (Option.some.inj hz')) hzz
     ·exact hS.2 j z' (by omega) hz' s' hs' hu' hsd t ht
structure Co (x y:qg):Prop where
 sides:y.sides=x.sides
 master:y.master=x.master
 srv: ∀ (j:Nat) s,x.servers[j]? =some s-> ∃t,y.servers[j]? =some t/\t.up=s.up/\t.version=s.version/\t.epoch=s.epoch/\t.config=s.config
theorem Co.self(x:qg):Co x x:=⟨rfl,rfl,λ_ s h=>⟨s,h,rfl,rfl,rfl,rfl⟩⟩
theorem Co.trans{x y z:qg}(h:Co x y)(k:Co y z):Co x z:=⟨k.1.trans h.1,k.2.trans h.2,λj s hs=>by obtain⟨t,t1,t2,t3,t4,t5⟩:=h.srv j s hs;obtain⟨u,u1,u2,u3,u4,u5⟩:=k.srv j t t1;exact⟨u,u1,u2.trans t2,u3.trans t3,u4.trans t4,u5.trans t5⟩⟩
theorem Co.set{x y:qg}(h:Co x y){i:Nat}{s t:qj}(hs:y.servers[i]? =some s)(h1:t.up=s.up)(h2:t.version=s.version)(h3:t.epoch=s.epoch)(h4:t.config=s.config):Co x ⟨y.now,y.servers.set i t,y.sides,y.master,y.masterUp,y.lease,y.places⟩:=
 h.trans ⟨rfl,rfl,λj u hu=>by
  by_cases hj:i=j
  ·subst hj;rw[hs] at hu;obtain rfl:=Option.some.inj hu;exact⟨t,DK (C8 hs),h1,h2,h3,h4⟩
  ·exact⟨u,(DN hj).trans hu,rfl,rfl,rfl,rfl⟩⟩
def Hr(x:qg)(a b:Int):Prop:=∀p q,x.servers[a.toNat]? =some p->x.servers[b.toNat]? =some q->q.epoch=p.epoch/\q.config=p.config
theorem Co.hr{x y:qg}(h:Co x y){a b:Int}(hh:Hr y a b):Hr x a b:=λp q hp hq=>by obtain⟨p',p1,_,_,p2,p3⟩:=h.srv _ _ hp;obtain⟨q',q1,_,_,q2,q3⟩:=h.srv _ _ hq;obtain⟨e1,e2⟩:=hh p' q' p1 q1;exact⟨q2.symm.trans (e1.trans p2),q3.symm.trans (e2.trans p3)⟩
theorem aaU{x:qg}(ok:Ez 1048576 x)(vc:VC x){a b:Int}(ha:0<=a/\a<5)(hb:0<=b/\b<5):Tt (λy=>y.1=true->Hr x a b) (F0 x a b):=by unfold F0;have no:Tt (λy:Bool×Unit=>y.1=true->Hr x a b) (some (false,())):=.ret nofun;refine .srv ok vc hb λm m1 m2 _=> .bind (SK ok vc a b) λ_ _=> .br (λ_=> .br (λ_=> .srv ok vc ha λp p1 p2 _=> .br (λhe=> .srv ok vc ha λ_ _ _ _=> .br (λ_=> .srv ok vc ha λq q1 _ _=> ?_) λ_=>no) λ_=>no) λ_=>no) λ_=>no;rw[(F9 m.config q.config (Ei m2.1)).1];refine .ret λh p' q' hp hq=> ?_;rw[p1] at hp;rw[m1] at hq;rw[p1] at q1;obtain rfl:=Option.some.inj hp;obtain rfl:=Option.some.inj hq;obtain rfl:=Option.some.inj q1;exact⟨eq_of_beq he,of_decide_eq_true h⟩
theorem TT{s:qj}{id:Int}(ok:EA 1048576 s)(h:Ew s id=some (true,())):s.epoch=s.config.epoch:=by
 obtain⟨v,v1,_⟩:=J3 s id ok;obtain⟨n,n1,_⟩:=KX s.config id (Ei ok.1);unfold Ew at h;simp only[v1,n1,ao] at h;cases v with
 |false=>cases h
 |true=>
  cases hu:s.up with
  |false=>rw[hu] at h;cases h
  |true=>
   rw[hu] at h;cases hn:n==1 with
   |false=>rw[hn] at h;cases h
   |true=>rw[hn] at h;exact eq_of_beq (Prod.mk.inj (Option.some.inj h)).1
end
section
theorem OX:ET [] =some (true,()):=(Jw [] (by unfold maxLen;decide)).2 ⟨by decide,λk h=>absurd h (DV k)⟩
theorem Nn{α:Type}{P:Prop}{b:Bool}{x y z:Option α}(h:br b x y=z)(h1:b=true->x=z->P)(h2:b=false->y=z->P):P:=by
 cases b with
 |true=>exact h1 rfl h
 |false=>exact h2 rfl h
theorem Xh{s:qj}{id n:Int}(ok:EA 1048576 s)(hv:Eh s id=some (true,()))(hn:EP s.config id=some (n,()))(h3: (n==3)=false):s.first=0:=by
 have hc:=Ei ok.1;obtain⟨_,_,_,_,_,f6,f7,_⟩:=Gk ok hv;obtain⟨e,e1,_⟩:=GU s.log (Ep ok.2.1);have no: ∀ {P:Prop},some (false,())=some (true,())->P:=λh=>by cases h
 unfold Eh at hv;simp only[EM,f6,f7,I1 s.config hc,hn,e1,ao,Ef,CJ] at hv;refine Nn hv (λ_ hv=>Nn hv (λ_ hv=>Nn hv (λ_ hv=>Nn hv (λ_ hv=>Nn hv (λ_ hv=>Nn hv (λ_ hv=>Nn hv (λh _=>eq_of_beq h) λ_ h=>no h) λ_ hv=>Nn hv (λ_ hv=>Nn hv (λ_ h=>no h) λ_ hv=>Nn hv (λ_ h=>no h) λ_ hv=>Nn hv (λ_ h=>no h) λ_ hv=> ?_) λ_ h=>no h) λ_ h=>no h) λ_ h=>no h) λ_ h=>no h) λ_ h=>no h) λ_ h=>no h;rw[h3] at hv;exact eq_of_beq (Prod.mk.inj (Option.some.inj hv)).1
def Sm(x:qg)(l:List rk)(m:Int):Prop:=∀t,x.servers[m.toNat]? =some t->t.first+(t.log.length:Int)=(l.length:Int)/\0<=t.first/\t.log=l.drop t.first.toNat
theorem abd(x:qg)(ok:Ez 1048576 x)(id m:Int):Tt (λy=>Kp x y.1/\(∀p,x.servers[id.toNat]? =some p->(∃p',y.1.servers[id.toNat]? =some p'/\p'.log=p.log)/\(∀k:Int,Sm x p.log k->Sm y.1 p.log k)/\(y.2.1=true->Sm y.1 p.log m))) (Gf x id m):=by
 obtain⟨b,b1,_,b2⟩:=KW x ok id;have bad:Tt (λy:qg×Bool×Unit=>Kp x y.1/\(∀p,x.servers[id.toNat]? =some p->(∃p',y.1.servers[id.toNat]? =some p'/\p'.log=p.log)/\(∀k:Int,Sm x p.log k->Sm y.1 p.log k)/\(y.2.1=true->Sm y.1 p.log m))) (some (x,false,())):=.ret ⟨.self ok,λp hp=>⟨⟨p,hp,rfl⟩,λ_ h=>h,nofun⟩⟩;unfold Gf;rw[(EL x ok).1,ao,b1,ao,Ef];refine .br (λe=> ?_) λ_=>bad;obtain⟨hv,h0,h5,hp⟩:=b2 e;have vc:=Es ok hv;refine .srv ok vc ⟨h0,h5⟩ λs s1 s2 s3=> .bind (MC _ (Ei s2.1)) λy hy=> ?_;rw[(EG y.1 m (by have:=hy.1;unfold maxLen;omega)).1,ao,Ef];refine .br (λhm=> ?_) λ_=>bad;have hm:=hy.2 m (of_decide_eq_true hm);refine .bind (aaU ok vc ⟨h0,h5⟩ hm) λz hz=> ?_;rw[Ef];refine .br (λe=> .srv ok vc ⟨h0,h5⟩ λt t1 t2 t3=> .srv ok vc ⟨h0,h5⟩ λu u1 u2 _=> ?_) λ_=>bad;have hz:=hz e;obtain rfl:t=s:=Option.some.inj (t1.symm.trans s1);obtain rfl:u=t:=Option.some.inj (u1.symm.trans s1);obtain⟨w,w1,w2,w3⟩:=HY ok vc hm;have hwc:w.config=u.config:=(hz u w s1 w1).2;obtain⟨n,n1,_⟩:=KX u.config m (Ei u2.1);have pf:=HK u2 (hp u s1);obtain⟨n',n1',_,_,n4⟩:=Nm u.config m (Ei u2.1) pf.1;obtain rfl:n=n':=(Prod.mk.inj (Option.some.inj (n1.symm.trans n1'))).1;rw[n1,ao];have hlt:m.toNat<x.servers.length:=C8 w1;have hlu:=u2.2.1
 have fin: ∀ (v:qj),EA 1048576 v->v.first+(v.log.length:Int)=(u.log.length:Int)->0<=v.first->v.log=u.log.drop v.first.toNat->(m=id->v.log=u.log)-> ∀p,x.servers[id.toNat]? =some p->(∃p',(x.servers.set m.toNat v)[id.toNat]? =some p'/\p'.log=p.log)/\(∀k:Int,Sm x p.log k->Sm ⟨x.now,x.servers.set m.toNat v,x.sides,x.master,x.masterUp,x.lease,x.places⟩ p.log k)/\(true=true->Sm ⟨x.now,x.servers.set m.toNat v,x.sides,x.master,x.masterUp,x.lease,x.places⟩ p.log m):=by
  intro v _ v1 v2 v3 v4 p hp;obtain rfl:p=u:=Option.some.inj (hp.symm.trans s1)
  have here:Sm ⟨x.now,x.servers.set m.toNat v,x.sides,x.master,x.masterUp,x.lease,x.places⟩ p.log m:=λt ht=>by rw[show (x.servers.set m.toNat v)[m.toNat]? =some v from DK hlt] at ht;obtain rfl:=Option.some.inj ht;exact⟨v1,v2,v3⟩
  refine⟨?_,λk hk t ht=> ?_,λ_=>here⟩
  ·by_cases hmi:m.toNat=id.toNat
   ·rw[<-hmi];exact⟨v,DK hlt,v4 (by omega)⟩
   ·exact⟨p,by rw[DN hmi];exact hp,rfl⟩
  ·by_cases hmk:m.toNat=k.toNat
   ·rw[<-hmk] at ht;exact here t ht
   ·exact hk t (by rw[<-DN hmk];exact ht)
 have five: ∀ (i:Nat) (s:qj),(x.servers.set i s).length=5:=λi s=>by rw[DL];exact vc.len
 refine .br (λhn3=> ?_) λhn3=> ?_
 ·rw[SH u.log u2.2.1 (Gk u2 s3).2.2.2.2.2.1,ao];refine .ip (by show 0<=m/\m< (x.servers.length:Int);rw[vc.len];exact hm) (.at vc.len hm λa a1 ha=> ?_);obtain rfl:a=w:=Option.some.inj (a1.symm.trans w1);refine .get (by rw[five];omega) λa' a1' ha'=> ?_;rw[show (x.servers.set m.toNat (⟨a.up,a.intact,a.version,a.epoch,a.config,((cutAt u.log:Nat):Int),a.log,a.commit,a.learned⟩:qj))[m.toNat]? =some _ from DK hlt] at a1';obtain rfl:=Option.some.inj a1';rw[List.set_set];have hc:cutAt u.log<=u.log.length:=by unfold cutAt;omega
  have okv:EA 1048576 ⟨a.up,a.intact,a.version,a.epoch,a.config,((cutAt u.log:Nat):Int),u.log.drop (cutAt u.log),a.commit,a.learned⟩:=⟨w2.1,by show List.length _<=_;rw[co];omega,w2.2.2⟩
  refine .ret ⟨(Kp.self ok).set okv _,fin _ okv ?_ (DH _) ?_ λh=>absurd (h.trans pf.2) (n4 (eq_of_beq hn3))⟩
  ·show ((cutAt u.log:Nat):Int)+((u.log.drop (cutAt u.log)).length:Int)=_;rw[co];omega
  ·show u.log.drop (cutAt u.log)=u.log.drop ((cutAt u.log:Nat):Int).toNat;rw[DG]
 ·rw[PO u2.2.1,ao];refine .at vc.len hm λa a1 ha=> ?_;obtain rfl:a=w:=Option.some.inj (a1.symm.trans w1);have hf:a.first=0:=Xh w2 w3 (by rw[hwc];exact n1) hn3;have okv:EA 1048576 ⟨a.up,a.intact,a.version,a.epoch,a.config,a.first,u.log,a.commit,a.learned⟩:=⟨w2.1,u2.2.1,w2.2.2⟩
  refine .ret ⟨(Kp.self ok).set okv _,fin _ okv ?_ ?_ ?_ λ_=>rfl⟩
  ·show a.first+(u.log.length:Int)=_;omega
  ·show 0<=a.first;omega
  ·show u.log=u.log.drop a.first.toNat;rw[hf];rfl
theorem Tt.and{α:Type}{Q Q':α->Prop}{r:Option α}(h:Tt Q r)(h':Tt Q' r):Tt (λa=>Q a/\Q' a) r:=by obtain⟨a,rfl,h⟩:=h;exact⟨a,rfl,h,h'.is rfl⟩
end
section
def Ev{α:Type}(Q:α->Prop)(r:Option α):Prop:=∀a,r=some a->Q a
section
variable {α β σ ε:Type} {Q:α->Prop} {Q':β->Prop}
theorem Ev.ret{a:α}(h:Q a):Ev Q (some a):=λ_ e=>Option.some.inj e ▸ h
theorem Ev.no:Ev Q none:=nofun
theorem Ev.bd{r:Option α}{k:α->Option β}(hk: ∀a,r=some a->Ev Q' (k a)):Ev Q' (r.bind k):=λb e=>by
 cases r with
 |none=>cases e
 |some a=>exact hk a rfl b e
theorem Ev.bind{r:Option α}{k:α->Option β}(h:Ev Q r)(hk: ∀a,Q a->Ev Q' (k a)):Ev Q' (r.bind k):=.bd λa e=>hk a (h a e)
theorem Ev.br{b:Bool}{x y:Option α}(h1:b=true->Ev Q x)(h2:b=false->Ev Q y):Ev Q (Go.Proofs.YtkghndikalnipacGreat.En.br b x y):=by
 cases b with
 |true=>exact h1 rfl
 |false=>exact h2 rfl
theorem Ev.brn{b:Bool}{x y:Option α}(h1:b=true->Ev Q y)(h2:b=false->Ev Q x):Ev Q (Go.Proofs.YtkghndikalnipacGreat.En.br (!b) x y):=by
 cases b with
 |true=>exact h1 rfl
 |false=>exact h2 rfl
theorem Ev.ip{p:Prop}{d:Decidable p}{x:Option α}(h:p->Ev Q x):Ev Q (@iteP _ p d x none):=by
 by_cases hp:p
 ·rw[B6 hp];exact h hp
 ·rw[B4 hp];exact .no
theorem Ev.ite{p:Prop}{d:Decidable p}{x y:Option α}(h:p->Ev Q x)(h2: ¬p->Ev Q y):Ev Q (@iteP _ p d x y):=by
 by_cases hp:p
 ·rw[B6 hp];exact h hp
 ·rw[B4 hp];exact h2 hp
theorem Ev.mono{Q2:α->Prop}{r:Option α}(h:Ev Q r)(hq: ∀a,Q a->Q2 a):Ev Q2 r:=λa e=>hq a (h a e)
theorem Ev.and{Q2:α->Prop}{r:Option α}(h:Ev Q r)(h2:Ev Q2 r):Ev (λa=>Q a/\Q2 a) r:=λa e=>⟨h a e,h2 a e⟩
theorem Ev.loop{B:σ->Option (σ⊕ε)}{E:ε->Prop}(I:σ->Prop)(h: ∀s,I s->Ev (Sum.elim I E) (B s)){s:σ}(hs:I s):Ev E (nx B s):=by
 intro e he;obtain⟨n,hn⟩:=jO.1 he;clear he
 induction n generalizing s with
 |zero=>cases hn
 |succ n ih=>
  unfold lh at hn;cases hB:B s with
  |none=>rw[hB] at hn;cases hn
  |some r=>
   rw[hB] at hn;have hr:=h s hs r hB;cases r with
   |inl s'=>exact ih hr hn
   |inr e'=>exact Option.some.inj hn ▸ hr
theorem Ev.count{B:σ->Option (σ⊕ε)}{E:ε->Prop}(m:Nat->β->σ)(J:Nat->β->Prop)(h: ∀k b,J k b->Ev (Sum.elim (λs=> ∃b',s=m (k+1) b'/\J (k+1) b') E) (B (m k b))){b:β}(hb:J 0 b):Ev E (nx B (m 0 b)):=
 Ev.loop (λs=> ∃k b,s=m k b/\J k b) (λs hs=>by
  obtain⟨k,b,rfl,hJ⟩:=hs;refine (h k b hJ).mono λr hr=> ?_;cases r with
  |inl s=>obtain⟨b',e,hJ'⟩:=hr;exact⟨k+1,b',e,hJ'⟩
  |inr e=>exact hr) ⟨0,b,rfl,hb⟩
end
theorem O5(l:List rk):Ev (λy=>y.1=l) (FT l):=by unfold FT;exact .ip λ_=> .ret (bF l)
theorem aby(a:List rk)(n:Int)(t:List rk):Ev (λy=>y.2.1=true->ET y.1=some (true,())/\ ∀e∈y.1,e∈a\/e∈t) (Gd a n t):=by unfold Gd;refine .bd λ_ _=> .brn (λ_=> .bd λ_ _=> .brn (λ_=> .br (λ_=> .ret nofun) λ_=> .ip λ_=> .bd λy3 _=> .br (λ_=> .ret nofun) λ_=> .bind (O5 a) λy4 h4=> .ip λ_=> .ip λ_=> .bd λy5 h5=> .brn (λe5=> .ret λ_=>⟨by rw[h5];exact congrArg some (Prod.ext e5 rfl),λe he=> ?_⟩) λ_=> .ret nofun) λ_=> .ret nofun) λ_=> .ret nofun;rw[h4] at he;exact (bC.1 he).imp id λh=>bE (bS h)
theorem aaC(s:qj):Ev (λy=> ∀e∈y.1,e∈s.log) (EB s):=by unfold EB;refine .bd λ_ _=> .brn (λ_=> .br (λ_=> .ret nofun) λ_=> .ip λ_=> .bind (O5 _) λy h=> .ret λe he=> ?_) λ_=> .ret nofun;rw[h] at he;exact bE (bS he)
theorem abq(s:qj)(id:Int):Ev (λy=> ∀e∈y.1,e∈s.learned\/e∈s.log) (HA s id):=by unfold HA;refine .bd λ_ _=> .bind (O5 _) λy2 h2=> ?_;have h2: ∀e∈y2.1,e∈s.learned\/e∈s.log:=λe he=> .inl (h2 ▸ he);exact .br (λ_=> .bind (aaC s) λy hy=> .br (λ_=> .ret λe he=> .inr (hy e he)) λ_=> .ret h2) λ_=> .br (λ_=> .bind (aaC s) λy hy=> .br (λ_=> .ret λe he=> .inr (hy e he)) λ_=> .ret h2) λ_=> .ret h2
end
section
theorem Vk{l:List rk}(hl:l.length<=maxLen)(h:ET l=some (true,())){e:Int}(he:Hh l=some (e,())): ∀x∈l,x.epoch<=e:=by
 obtain⟨_,h2⟩:=(Jw l hl).1 h
 have step: ∀k (hk:k+1<l.length),(l[k]'(by omega)).epoch<=(l[k+1]'hk).epoch:=by intro k hk;have h3:=h2 (k+1) hk;unfold R9 at h3;rw[aq hk,show k+1-1=k from rfl,aq (by omega)] at h3;simp at h3;omega
 have chain: ∀d k (hk:k+d<l.length),(l[k]'(by omega)).epoch<=(l[k+d]'hk).epoch:=by
  intro d
  induction d with
  |zero=>intro k hk;exact cU _
  |succ d ih=>intro k hk;exact Int.le_trans (ih k (by omega)) (step (k+d) hk)
 intro x hx;obtain⟨k,hk,rfl⟩:=aU hx;unfold Hh at he;unfold maxLen at hl;rw[show ((l.length:Int)==0)=false from beq_eq_false_iff_ne.2 (by omega),BK,vN (by omega) (by omega),B6 (by omega),aq (by omega),ao] at he;rw[<-(Prod.mk.inj (Option.some.inj he)).1];have h4:=chain (l.length-1-k) k (by omega);have e1:k+(l.length-1-k)=((l.length:Int)-1).toNat:=by omega
 simp only[e1] at h4;exact h4
theorem Vj{l:List rk}{n:Int}(h0:0<=n)(h: ∀x∈l,x.epoch<=n):Ev (λy=>y.1<=n) (Hh l):=by unfold Hh;exact .br (λ_=> .ret h0) λ_=> .ip λ_=> .bd λx hx=> .ret (h x (aA hx))
theorem WD{s:qj}{id:Int}(ok:EA 1048576 s)(hv:Eh s id=some (true,())): ∀e∈s.log,e.epoch<=s.config.epoch:=by
 have hc:=Ei ok.1;obtain⟨_,_,_,_,_,f6,f7,_⟩:=Gk ok hv;obtain⟨e,e1,_⟩:=GU s.log (Ep ok.2.1);obtain⟨n,n1,_⟩:=KX s.config id hc;have no: ∀ {P:Prop},some (false,())=some (true,())->P:=λh=>by cases h
 unfold Eh at hv;simp only[EM,f6,f7,I1 s.config hc,n1,e1,ao,Ef,CJ] at hv;refine Nn hv (λ_ hv=>Nn hv (λ_ hv=>Nn hv (λ_ hv=>Nn hv (λ_ hv=>Nn hv (λ_ hv=>Nn hv (λ_ hv=>Nn hv (λ_ hv=>Nn hv (λh0 _=> ?_) λ_ h=>no h) λ_ h=>no h) λ_ hv=>Nn hv (λ_ hv=>Nn hv (λ_ h=>no h) λ_ hv=>Nn hv (λ_ h=>no h) λhle _=> ?_) λ_ h=>no h) λ_ h=>no h) λ_ h=>no h) λ_ h=>no h) λ_ h=>no h) λ_ h=>no h
 ·have h0: (s.log.length:Int)=0:=eq_of_beq h0;rw[ba (by omega:s.log.length=0)];exact nofun
 ·have hle: ¬e>s.config.epoch:=of_decide_eq_false hle
  exactλx hx=>Int.le_trans (Vk (Ep ok.2.1) f6 e1 x hx) (by omega)
theorem SV.old2{m:jY}{s:qj}{k:Int}(h:SV m s k)(h0:0<=m.activated):s.config.epoch<=m.activated:=by
 rcases h.cfg with h| ⟨_,h⟩
 ·rw[h];exact h0
 ·exact h
theorem VP{x:qg}(ok:Ez 1048576 x)(hv:Ee x=some (true,())){k:Nat}{s:qj}(hs:x.servers[k]? =some s): ∀e,e∈s.learned\/e∈s.log->e.epoch<=x.master.activated:=by
 have vc:=Es ok hv;obtain⟨_,f2,_⟩:=I2 (Fh ok.2.2.1) vc.ml;have hlt:=C8 hs;have sv:=LP ok hv k hlt;rw[aq hlt] at hs;rw[Option.some.inj hs] at sv;have oks:EA 1048576 s:=Option.some.inj hs ▸ ok.1.2 _ (DJ hlt);obtain⟨_,_,_,_,_,_,f7,_⟩:=Gk oks sv.val
 rintro e (he|he)
 ·obtain⟨n,n1,n2⟩:=sv.lrn;exact Int.le_trans (Vk (Ep oks.2.2) f7 n1 e he) n2
 ·exact Int.le_trans (WD oks sv.val e he) (sv.old2 f2)
def Lg(A:Int)(l:List rk):Prop:=ET l=some (true,())/\ ∀e∈l,e.epoch<=A
section
variable {x:qg} {A:Int} (hd: ∀ (k:Nat) s,x.servers[k]? =some s-> ∀e,e∈s.learned\/e∈s.log->e.epoch<=A)
include hd
theorem aaW(s0: (Int×Unit×Unit×Bool×Unit×Bool×Int×Unit×Int×Unit)×((Int×List qj×List Int×List nF×Int×Int×Int×Int×Int×List uO×Unit)×(Int×Int×Unit×Unit×Unit)×(Bool×Bool×Int×Int×Int×Int×List Int×List Int×Int×List rk×Int×List rk×Unit)×Unit)×List rk×List Int×List Int×Unit)
  (h1:s0.2.1.1=fx x) (hw: ∀e∈s0.2.1.2.2.1.2.2.2.2.2.2.2.2.2.1,e.epoch<=A) (h2:s0.1.2.2.2.1=true->Lg A s0.2.2.1):Ev (λe=>e.2.1.1=fx x/\(e.1.2.2.2.1=true->Lg A e.2.2.1)) (IL s0):=by
 refine .loop (B:=FG) (λs=>s.2.1.1=fx x/\(∀e∈s.2.1.2.2.1.2.2.2.2.2.2.2.2.2.1,e.epoch<=A)/\(s.1.2.2.2.1=true->Lg A s.2.2.1)) (λs hs=> ?_) ⟨h1,hw,h2⟩;obtain⟨i1,i2,i3⟩:=hs;unfold FG;refine .br (λ_=> .ip λ_=> .bd λt ht=> ?_) λ_=> .ret ⟨i1,i3⟩
 extract_lets j66
 generalize hQ: (Sum.elim (λs: (Int×Unit×Unit×Bool×Unit×Bool×Int×Unit×Int×Unit)×((Int×List qj×List Int×List nF×Int×Int×Int×Int×Int×List uO×Unit)×(Int×Int×Unit×Unit×Unit)×(Bool×Bool×Int×Int×Int×Int×List Int×List Int×Int×List rk×Int×List rk×Unit)×Unit)×List rk×List Int×List Int×Unit=>s.2.1.1=fx x/\(∀e∈s.2.1.2.2.1.2.2.2.2.2.2.2.2.2.1,e.epoch<=A)/\(s.1.2.2.2.1=true->Lg A s.2.2.1)) (λe: (Int×Unit×Unit×Bool×Unit×Bool×Int×Unit)×((Int×List qj×List Int×List nF×Int×Int×Int×Int×Int×List uO×Unit)×(Int×Int×Unit×Unit×Unit)×Unit)×List rk×List Int×List Int×Unit=>e.2.1.1=fx x/\(e.1.2.2.2.1=true->Lg A e.2.2.1)))=Q;have keep:Ev Q (j66 s.2.2.1 s.1.2.2.2.1):=hQ ▸ .ret ⟨i1,i2,i3⟩;refine .brn (λ_=> .bd λ_ _=> .brn (λ_=> .ip λ_=> .bd λu hu=> .bind (abq u _) λy hy=> .bind (aby _ _ _) λz hz=> .br (λhz2=> ?_) λ_=>keep) λ_=>keep) λ_=>keep
 have hu2: ∀e,e∈u.learned\/e∈u.log->e.epoch<=A:=by rw[i1] at hu;exact hd _ u hu
 have new:Ev Q (j66 z.1 true):=hQ ▸ .ret ⟨i1,i2,λ_=>⟨(hz hz2).1,λe he=>((hz hz2).2 e he).elim (λh=>hu2 e (hy e h)) (i2 e)⟩⟩;exact .brn (λ_=> .br (λ_=>new) λ_=>keep) λ_=>new
theorem Y4(id:Int):Ev (λy=>y.2.1=true->Lg A y.1) (Fo x id):=by unfold Fo;refine .bd λy1 _=> .bind (.loop (B:=Fv) (E:=λe=>e.1.2.1=true->Lg A e.2.2.1) (λs=>s.2.1.1=fx x/\(s.1.2.2.2.1=true->Lg A s.2.2.1)) (λs hs=> ?_) ⟨rfl,nofun⟩) λe he=> .ret he;obtain⟨i1,i2⟩:=hs;unfold Fv;refine .br (λ_=> .br (λ_=> .bd λ_ _=> .br (λ_=> .bd λ_ _=> .br (λ_=> .ip λ_=> .bd λ_ _=> .ip λ_=> .bd λw hw=> .brn (λ_=> .brn (λ_=> .ip λ_=> .bd λ_ _=> .bd λ_ _=> .brn (λ_=> ?_) λ_=> .ret ⟨i1,i2⟩) λ_=> .ret ⟨i1,i2⟩) λ_=> .ret ⟨i1,i2⟩) λ_=> .ret i2) λ_=> .ret i2) λ_=> .ret i2) λ_=> .ret i2;rw[i1] at hw;exact .bind (aaW hd _ i1 (λe he=>hd _ w hw e (.inr he)) i2) λe he=> .ret ⟨he.1,he.2⟩
end
theorem ZL(x:qg)(ok:Ez 1048576 x)(id:Int):Ev (λy=>y.2.1=true->Lg x.master.activated y.1) (Fy x id):=by
 unfold Fy;refine .bd λv hv=> .brn (λev=> .bd λ_ _=> .brn (λ_=> .br (λ_=> .ret λ_=>⟨OX,nofun⟩) λ_=> .bd λn _=> .br (λ_=> .ip λ_=> .bd λs hs=> .bind (O5 _) λy hy=> .ret λ_=> ?_) λ_=> .bind (Y4 (A:=x.master.activated) (λk s hs=> ?_) id) λy hy=> .ret hy) λ_=> .ret nofun) λ_=> .ret nofun
 all_goals have hv:Ee x=some (true,()):=by rw[hv];exact congrArg some (Prod.ext ev rfl)
 ·show Lg _ y.1;rw[hy];have hlt:=C8 hs;have sv:=LP ok hv n.1.toNat hlt;rw[aq hlt] at hs;rw[Option.some.inj hs] at sv;have oks:EA 1048576 s:=Option.some.inj hs ▸ ok.1.2 _ (DJ hlt);exact⟨(Gk oks sv.val).2.2.2.2.2.1,λe he=>VP ok hv (k:=n.1.toNat) (by rw[aq hlt];exact hs) e (.inr he)⟩
 ·exact VP ok hv hs
end
section
theorem UW(c:nF):Ev (λy=>y.1=c) (Hk c):=by unfold Hk;exact .ip λ_=> .ip λ_=> .ret rfl
structure Ins (s t:qj) (c:nF) (l:List rk) (n:Int):Prop where
 up:t.up=s.up
 intact:t.intact=true
 version:t.version=s.version
 epoch:t.epoch=c.epoch
 config:t.config=c
 first:t.first=if n=3 then ((cutAt l:Nat):Int) else 0
 log:t.log=if n=3 then l.drop (cutAt l) else l
 commit:t.commit=(l.length:Int)
 learned:t.learned= []
theorem X1{s:qj}{c:nF}{id n:Int}{l:List rk}(hn:EP c id=some (n,()))(h0:n≠0)(hl:ET l=some (true,()))(hlen:l.length<=1048576)(hv:1<=s.version/\s.version<=2)(he:0<=s.epoch/\s.epoch<=c.epoch)(hc:0<=c.epoch)(ha: ∀e∈l,e.epoch<=c.epoch)(hf:s.version=1->EX l=some (false,())):Ev (λy=>Ins s y.1 c l n) (FI s c id l):=by
 have e0: (n==0)=false:=beq_eq_false_iff_ne.2 h0;unfold FI;rw[hn,ao];show Ev _ (br (n==0) _ _);rw[e0,BK,hl,ao];show Ev _ ((Em s.version 1 2).bind _);rw[EM,Eg.2 hv,ao];show Ev _ ((Em s.epoch 0 c.epoch).bind _);rw[EM,Eg.2 he,ao];refine .bind (Vj hc ha) λy9 h9=> .br (λh=>absurd (of_decide_eq_true h) (by omega)) λ_=> ?_
 extract_lets j18
 have hj:Ev (λy=>Ins s y.1 c l n) j18:=by
  unfold j18;refine .bind (UW c) λy13 h13=> .bind (O5 l) λy14 h14=> .br (λh3=> ?_) λh3=> ?_
  ·have h3:n=3:=eq_of_beq h3;rw[RJ l hlen];refine .ip λ_=> .bind (O5 _) λy15 h15=> .ret ⟨rfl,rfl,rfl,rfl,h13,by rw[if_pos h3],?_,rfl,rfl⟩;rw[if_pos h3];show y15.1=_;rw[h15,DG,DG];exact bW (by rw[co];omega)
  ·have h3: ¬n=3:=ne_of_beq_false h3;exact .ret ⟨rfl,rfl,rfl,rfl,h13,by rw[if_neg h3],by rw[if_neg h3];exact h14,rfl,rfl⟩
 refine .br (λh1=> ?_) λ_=>hj;rw[hf (eq_of_beq h1),ao];exact hj
structure Act0 (x y:qg) (c:nF) (M:List Int) (l:List rk):Prop where
 chosen:Ge x.master=some (c,true,())
 members:EO c=some (M,())
 newer:x.master.activated≠c.epoch
 now:y.now=x.now
 sides:y.sides=x.sides
 up:y.masterUp=x.masterUp
 places:y.places=x.places
 lease:y.lease=⟨0,0,0⟩
 master:y.master=⟨x.master.configs,c.epoch⟩
 isLog:Lg x.master.activated l
 mem: ∀z∈M,∃s t n,x.servers[z.toNat]? =some s/\s.up=true/\x.sides[z.toNat]? =some 0/\EP c z=some (n,())/\y.servers[z.toNat]? =some t/\Ins s t c l n
 rest: ∀ (j:Nat) s,x.servers[j]? =some s->(∀z∈M,z.toNat≠j)-> ∃ep,y.servers[j]? =some (Ho s ep)/\SV x.master (Ho s ep) (j:Int)
 len:y.servers.length=x.servers.length
structure aaJ (x y:qg) (c:nF) (M:List Int) (l:List rk):Prop extends Act0 x y c M l where
 source:Fy x c.primary=some (l,true,())
 sealed: ∃w,E0 x c.primary c.epoch=some (w,())/\ ∀ (j:Nat) s,w.servers[j]? =some s->(∀z∈M,z.toNat≠j)->y.servers[j]? =some s
theorem SO{s:qj}{id:Int}(hv:Eh s id=some (true,())):1<=s.version/\s.version<=2:=by
 unfold Eh at hv;rw[EM,ao] at hv;cases h:GG s.version 1 2 with
 |true=>exact Eg.1 h
 |false=>rw[h] at hv;cases hv
theorem YY{l:List Int}(h:SS l){i j:Nat}{a b:Int}(hi:l[i]? =some a)(hj:l[j]? =some b)(hij:i<j):a<b:=by have hj':=C8 hj;have hi':=C8 hi;rw[aq hi'] at hi;rw[aq hj'] at hj;rw[<-Option.some.inj hi,<-Option.some.inj hj];exact DQ.1 h i j hi' hj' hij
theorem TF(x:qg)(ok:Ez 1048576 x):Ev (λy=>y.2.1=0->Ee x=some (true,())/\ ∃c M l,aaJ x y.1 c M l) (Ga x):=by
 obtain⟨v,hv,_⟩:=Fp x ok;obtain⟨c,b,c1,_,c3⟩:=Mc x.master (x.master.configs.length:Int) ok.2.2.1;unfold Ga;have hch:Ge x.master=some (c,b,()):=by unfold Ge;rw[c1];rfl
 rw[(EL x ok).1,ao,hch,ao,hv,ao];refine .brn (λev=> ?_) λ_=> .ret nofun;have ev:v=true:=ev;subst ev;have vc:=Es ok hv;obtain⟨_,f2,f3⟩:=I2 (Fh ok.2.2.1) vc.ml;have f20:=TP ok.2.2.1 vc.ml;refine .brn (λhb=> .br (λ_=> .ret nofun) λhne=> .br (λ_=> .ret nofun) λ_=> .ip λ_=> .bd λp _=> .brn (λ_=> .ip λ_=> .bd λ_ _=> .brn (λ_=> .bd λ_ _=> .brn (λ_=> ?_) λ_=> .ret nofun) λ_=> .ret nofun) λ_=> .ret nofun) λ_=> .ret nofun;have hb:b=true:=hb;subst hb;have hne:c.epoch≠x.master.activated:=ne_of_beq_false hne;obtain⟨c',b',q1,_,_,q4,q5,_⟩:=H6 x.master (x.master.configs.length:Int) ok.2.2.1 vc.ml;rw[c1] at q1;simp only[af,au,and_true] at q1;obtain⟨rfl,rfl⟩:=q1;obtain⟨cv,ce⟩:=q5 rfl;obtain⟨_,_,_,ce1,_⟩:=Fm c3 cv;obtain⟨w,w1,_,okw,wv⟩:=aaH x ok c.primary c.epoch;obtain⟨hvw,se,W,hW⟩:=wv hv;have vcw:=Es okw hvw;rw[w1,ao];refine .bd λy8 h8=> .brn (λe8=> ?_) λ_=> .ret nofun;obtain⟨L,hasL,_⟩:=y8;have e8:hasL=true:=e8;subst e8;have lg:=ZL x ok c.primary _ h8 rfl
 have Ll:L.length<=1048576:=by obtain⟨_,_,l',b',_,_,_,_,_,_,g,_,_,_,_,g2,_⟩:=SN x ok c.primary;rw[h8] at g;simp only[af,au,and_true] at g;rw[g.1];exact g2
 obtain⟨M,m1,_,m3,m4,m5,m6⟩:=Hi c c3;have mm:M.length<=maxLen:=by unfold maxLen;omega
 rw[m1,ao];have sw: ∀k,k<M.length->IntKind.wrap .i64 ((k:Int)+1)=((k+1:Nat):Int):=λk hk=>BI mm hk
 refine .bind (.count (B:=GI) (E:=Sum.elim (λe=>e.1.2.2.1=10) λe=>e.2=((fx x,fz,fc w,(c.epoch,c.primary,(),(),()),()),L,M,w.servers,w.sides,w.master.configs,w.places,c.replicas,c.witnesses,())/\ ∀j z,j<M.length->M[j]? =some z-> ∃s,x.servers[z.toNat]? =some s/\s.up=true/\x.sides[z.toNat]? =some 0)
  (λk (_:Unit)=>(((),(),(),(),(),(),(k:Int),()),(fx x,fz,fc w,(c.epoch,c.primary,(),(),()),()),L,M,w.servers,w.sides,w.master.configs,w.places,c.replicas,c.witnesses,()))
  (λk _=>k<=M.length/\ ∀j z,j<k->M[j]? =some z-> ∃s,x.servers[z.toNat]? =some s/\s.up=true/\x.sides[z.toNat]? =some 0) (λk _ hJ=> ?_) (b:=()) ⟨bM _,λj z h=>absurd h (DV j)⟩) λe he=> ?_
 ·refine .br (λh=> .ip λ_=> .bd λz hz=> .ip λ_=> .bd λs hs=> .brn (λhu=> .ip λ_=> .bd λz2 hz2=> .ip λ_=> .bd λsd hsd=> .brn (λe0=> ?_) λ_=> .ret rfl) λ_=> .ret rfl) λh=> .ret ⟨rfl,λj z hj=>hJ.2 j z ?_⟩
  ·have hk:k<M.length:=DI.1 (of_decide_eq_true h);have hz:M[k]? =some z:=hz;obtain rfl:z2=z:=Option.some.inj ((show M[k]? =some z2 from hz2).symm.trans hz);refine .ret ⟨(),by rw[sw k hk],hk,λj z' hj hz'=> ?_⟩;by_cases hjk:j=k
   ·subst hjk;obtain rfl:=Option.some.inj (hz.symm.trans hz');exact⟨s,hs,hu,by rw[hsd,eq_of_beq e0]⟩
   ·exact hJ.2 j z' (by omega) hz'
  ·have : ¬ ((k:Int)< (M.length:Int)):=of_decide_eq_false h;omega
 cases e with
 |inl e=>exact .ret λh=>absurd ((show e.1.2.2.1=10 from he).symm.trans h) (by decide)
 |inr e=>
 obtain⟨he,hup⟩:=he;show Ev _ ((IW (((),(),(),(),(),(),0,()),e.2)).bind _);rw[he]
 refine .bind (.count (B:=FF) (E:=Sum.elim (λe=>e.1.2.2.1=6) λe=>e.2=((fx x,fz,fc w,(c.epoch,c.primary,(),(),()),()),L,M,w.servers,w.sides,w.master.configs,w.places,c.replicas,c.witnesses,())/\ ∀j z,j<M.length->M[j]? =some z-> ∀s,x.servers[z.toNat]? =some s->s.version=1->EX L=some (false,()))
  (λk (_:Unit)=>(((),(),(),(),(),(),(k:Int),()),(fx x,fz,fc w,(c.epoch,c.primary,(),(),()),()),L,M,w.servers,w.sides,w.master.configs,w.places,c.replicas,c.witnesses,()))
  (λk _=>k<=M.length/\ ∀j z,j<k->M[j]? =some z-> ∀s,x.servers[z.toNat]? =some s->s.version=1->EX L=some (false,())) (λk _ hJ=> ?_) (b:=()) ⟨bM _,λj z h=>absurd h (DV j)⟩) λe he=> ?_
 ·refine .br (λh=> .ip λ_=> .bd λz hz=> .ip λ_=> .bd λs hs=> ?_) λh=> .ret ⟨rfl,λj z hj=>hJ.2 j z ?_⟩
  ·have hk:k<M.length:=DI.1 (of_decide_eq_true h);have hz:M[k]? =some z:=hz
   have next: (s.version=1->EX L=some (false,()))->k+1<=M.length/\ ∀j z,j<k+1->M[j]? =some z-> ∀s,x.servers[z.toNat]? =some s->s.version=1->EX L=some (false,()):=λhn=>⟨hk,λj z' hj hz' s' hs' hv'=>by
    by_cases hjk:j=k
    ·subst hjk;obtain rfl:=Option.some.inj (hz.symm.trans hz');obtain rfl:=Option.some.inj ((show x.servers[z.toNat]? =some s from hs).symm.trans hs');exact hn hv'
    ·exact hJ.2 j z' (by omega) hz' s' hs' hv'⟩
   refine .br (λh1=> .bd λnf hnf=> .br (λ_=> .ret rfl) λh0=> .ret ⟨(),by rw[sw k hk],next λ_=> ?_⟩) λh1=> .ret ⟨(),by rw[sw k hk],next λh=>absurd h (ne_of_beq_false h1)⟩;exact (show EX L=some nf from hnf).trans (congrArg some (Prod.ext h0 rfl))
  ·have : ¬ ((k:Int)< (M.length:Int)):=of_decide_eq_false h;omega
 cases e with
 |inl e=>exact .ret λh=>absurd ((show e.1.2.2.1=6 from he).symm.trans h) (by decide)
 |inr e=>
 obtain⟨he,hnf⟩:=he;show Ev _ ((Lb (((),(),(),(),(),(),0,()),e.2)).bind _);rw[he]
 refine .bind (.count (B:=G7) (E:=λe=> ∃S:List qj,S.length=w.servers.length/\(∀ (j:Nat) s,w.servers[j]? =some s->(∀i z,i<M.length->M[i]? =some z->z.toNat≠j)->S[j]? =some s)/\(∀i z,i<M.length->M[i]? =some z-> ∃s t n,w.servers[z.toNat]? =some s/\EP c z=some (n,())/\S[z.toNat]? =some t/\Ins s t c L n)/\e=(((),(),(),(),()),(fx x,fz,fc w,(c.epoch,c.primary,(),(),()),()),S,w.sides,w.master.configs,w.places,c.replicas,c.witnesses,()))
  (λk (S:List qj)=>(((),(),(),(),(),(),(k:Int),()),(fx x,fz,fc w,(c.epoch,c.primary,(),(),()),()),L,M,S,w.sides,w.master.configs,w.places,c.replicas,c.witnesses,()))
  (λk S=>k<=M.length/\S.length=w.servers.length/\(∀ (j:Nat) s,w.servers[j]? =some s->(∀i z,i<k->M[i]? =some z->z.toNat≠j)->S[j]? =some s)/\ ∀i z,i<k->M[i]? =some z-> ∃s t n,w.servers[z.toNat]? =some s/\EP c z=some (n,())/\S[z.toNat]? =some t/\Ins s t c L n) (λk S hJ=> ?_) (b:=w.servers) ⟨bM _,rfl,λ_ _ h _=>h,λi z h=>absurd h (DV i)⟩) λe he=> ?_
 ·refine .br (λh=> .ip λ_=> .bd λz hz=> .ip λ_=> .bd λz1 hz1=> .ip λ_=> .bd λs hs=> .ip λ_=> .bd λz2 hz2=> .bd λs2 hs2=> .ip λ_=> .bd λs3 hs3=> .ip λ_=> .bd λs4 hs4=> .ip λ_=> .bd λs5 hs5=> .ip λ_=> ?_) λh=> .ret ⟨S,hJ.2.1,?_,?_,rfl⟩
  ·have hk:k<M.length:=DI.1 (of_decide_eq_true h);have hz:M[k]? =some z:=hz;obtain rfl:z1=z:=Option.some.inj ((show M[k]? =some z1 from hz1).symm.trans hz);obtain rfl:z2=z1:=Option.some.inj ((show M[k]? =some z2 from hz2).symm.trans hz);have hs:S[z2.toNat]? =some s:=hs;obtain rfl:s2=s:=Option.some.inj ((show S[z2.toNat]? =some s2 from hs2).symm.trans hs);obtain rfl:s3=s2:=Option.some.inj ((show S[z2.toNat]? =some s3 from hs3).symm.trans hs);obtain rfl:s4=s3:=Option.some.inj ((show S[z2.toNat]? =some s4 from hs4).symm.trans hs);obtain rfl:s5=s4:=Option.some.inj ((show S[z2.toNat]? =some s5 from hs5).symm.trans hs);have hzM:=aA hz;have hzr:=m4 z2 hzM
   have hws:w.servers[z2.toNat]? =some s5:=by
    have hlt:z2.toNat<w.servers.length:=by rw[vcw.len];omega
    have h2:=hJ.2.2.1 _ _ (aq hlt) (λi z' hi hz' he=>by have:=YY m5 hz' hz hi;have:=m4 z' (aA hz');omega)
    rw[aq hlt,<-h2,hs]
   have hlt:=C8 hws;have svw:=LP okw hvw z2.toNat hlt;rw[show w.servers[z2.toNat] =s5 from by rw[aq hlt] at hws;exact Option.some.inj hws] at svw;have oks:=okw.1.2 s5 (aA hws);obtain⟨_,_,_,_,_,_,_,p1,_⟩:=Gk oks svw.val;have hep:=svw.ep;rw[se.master] at hep;obtain⟨n,n1,_,n3,_⟩:=Nm c z2 c3 cv;have hn0:n≠0:=λh=>n3.1 h ((m6 cv z2).1 hzM)
   have hI:=X1 (s:=s5) n1 hn0 lg.1 Ll (SO svw.val) ⟨p1,by omega⟩ (by omega) (λe he=>by have:=lg.2 e he;omega) (λh1=>by obtain⟨sx,sx1,_⟩:=HY ok vc hzr;obtain⟨ep,g1⟩:=se.srv _ _ sx1;rw[hws] at g1;exact hnf k z2 hk hz sx sx1 (by rw[Option.some.inj g1] at h1;exact h1))
   show Ev _ ((FI ⟨s5.up,s5.intact,s5.version,s5.epoch,⟨s5.config.epoch,s5.config.primary,(s5.config.replicas.drop 0).take s5.config.replicas.length,(s5.config.witnesses.drop 0).take s5.config.witnesses.length⟩,s5.first,(s5.log.drop 0).take s5.log.length,s5.commit,(s5.learned.drop 0).take s5.learned.length⟩ ⟨c.epoch,c.primary,c.replicas,c.witnesses⟩ z2 L).bind _);rw[cE,cE,cE,cE,DP,DP,DP,DP];refine .bind hI λy hy=> .ip λ_=> .bd λ_ _=> .ret ⟨S.set z2.toNat y.1,by rw[sw k hk],hk,by rw[DL];exact hJ.2.1,λj t ht hno=> ?_,λi z' hi hz'=> ?_⟩
   ·rw[DN (hno k z2 (cR k) hz)];exact hJ.2.2.1 j t ht λi z' hi=>hno i z' (by omega)
   ·by_cases hik:i=k
    ·subst hik;obtain rfl:=Option.some.inj (hz.symm.trans hz');exact⟨s5,y.1,n,hws,n1,DK (C8 hs),hy⟩
    ·obtain⟨a,t,n',a1,a2,a3,a4⟩:=hJ.2.2.2 i z' (by omega) hz';have:=YY m5 hz' hz (by omega);have:=m4 z' (aA hz');exact⟨a,t,n',a1,a2,by rw[DN (by omega)];exact a3,a4⟩
  ·have : ¬ ((k:Int)< (M.length:Int)):=of_decide_eq_false h
   exactλj s hs hno=>hJ.2.2.1 j s hs λi z hi hz=>hno i z (C8 hz) hz
  ·have : ¬ ((k:Int)< (M.length:Int)):=of_decide_eq_false h
   exactλi z hi hz=>hJ.2.2.2 i z (by omega) hz
 obtain⟨S,g1,g2,g3,rfl⟩:=he
 have hac:Fw x.master c.epoch=some (⟨x.master.configs,c.epoch⟩,true,()):=by unfold Fw;rw[(Ob x.master ok.2.2.1).1,ao,vc.ml,ao,ce,beq_self_eq_true,C1];rw[if_neg (by omega)];rfl
 show Ev _ ((Fw x.master c.epoch).bind _);rw[hac,ao];refine .ret λ_=>⟨rfl,c,M,L,⟨⟨hch,m1,λh=>hne h.symm,by rw[hW],se.sides,by rw[hW],by rw[hW],rfl,rfl,lg,λz hz=> ?_,λj s hs hno=> ?_,?_⟩,h8,⟨w,w1,λj s hs hno=>g2 j s hs λi z _ hz=>hno z (aA hz)⟩⟩⟩
 ·obtain⟨i,hi,rfl⟩:=aU hz;have hg:M[i]? =some M[i] :=aq hi;obtain⟨s,s1,s2,s3⟩:=hup i _ hi hg;obtain⟨s',t,n,t1,t2,t3,t4⟩:=g3 i _ hi hg;obtain⟨ep,u1⟩:=se.srv _ _ s1;rw[t1] at u1;have u1:=Option.some.inj u1;exact⟨s,t,n,s1,s2,s3,t2,t3,t4.up.trans (by rw[u1]),t4.intact,t4.version.trans (by rw[u1]),t4.epoch,t4.config,t4.first,t4.log,t4.commit,t4.learned⟩
 ·obtain⟨ep,u1⟩:=se.srv _ _ hs;refine⟨ep,g2 j _ u1 λi z _ hz=>hno z (aA hz),?_⟩;have hlt:=C8 u1;have svw:=LP okw hvw j hlt;rw[aq hlt] at u1;rw[Option.some.inj u1,se.master] at svw;exact svw
 ·show S.length=x.servers.length;rw[g1,vcw.len,vc.len]
end
section
theorem RL{l:List rk}(hl:l.length<=maxLen)(h:ET l=some (true,()))(n:Nat):ET (l.drop n)=some (true,()):=by
 obtain⟨h1,h2⟩:=(Jw l hl).1 h;refine (Jw _ (by rw[co];omega)).2 ⟨by rw[co];omega,λk hk=> ?_⟩;rw[co] at hk;have h3:=h2 (n+k) (by omega);unfold R9 at h3 ⊢;rw[bf];cases k with
 |zero=>rw[bH] at h3 ⊢;rw[aq (by omega)] at h3 ⊢;simp at h3 ⊢;exact⟨h3.1,h3.2.1⟩
 |succ k=>rw[bf,show n+(k+1)-1=n+k from by omega,aq (by omega),aq (by omega)] at*;simp at h3 ⊢;exact h3
theorem aa6{m:jY}(hl:m.configs.length<=maxLen)(h: ∀k (hk:k<m.configs.length),Ek m.configs[k] =some (true,())/\m.configs[k].epoch=(k:Int)+1)(ha:0<=m.activated/\m.activated<=(m.configs.length:Int)):Er m=some (true,()):=by
 refine Tt.tru ?_;unfold Er;refine .bind (.count (B:=Fe) (E:=Sum.elim (λ_=>False) λe=>e.2.1.1=(m.configs,m.activated,())) m.configs.length (λk (_:Unit)=>(((),(k:Int),()),((m.configs,m.activated,()),()),())) (λ_ _=>True) (λ_ _=> .end (DM _) (.ret rfl)) (λk _ hk _=> .go (DI.2 hk) (.ip (DH k) ?_)) () trivial) λe he=> ?_
 ·have sw:=BI hl hk;have hk2:=h k hk;have hg:m.configs[k]? =some m.configs[k] :=aq hk;generalize m.configs[k] =c at hg hk2;refine .get (tn hk) λc' hc' _=> ?_;obtain rfl:c'=c:=Option.some.inj ((show m.configs[k]? =some c' from hc').symm.trans hg);refine .bind (Q:=λy=>y.1=true) ⟨_,hk2.1,rfl⟩ λy hy=> .br (λh=>by rw[hy] at h;cases h) λ_=> .ip (DH k) (.get (tn hk) λd hd _=> .br (λhn=> ?_) λ_=> .ret ⟨(),by rw[sw],trivial⟩);obtain rfl:d=c':=Option.some.inj ((show m.configs[k]? =some d from hd).symm.trans hg);have hn: (!(d.epoch==IntKind.wrap .i64 ((k:Int)+1)))=true:=hn;rw[sw,hk2.2] at hn;simp at hn
 ·cases e with
  |inl e=>exact he.elim
  |inr e=>show Tt _ ((Em e.2.1.1.2.1 0 (e.2.1.1.1.length:Int)).bind _);rw[show e.2.1.1=_ from he,EM,Eg.2 ha];exact .ret rfl
theorem TG{m:jY}(ok:NY 1048576 m)(hv:Er m=some (true,())){a:Int}(hv':Er ⟨m.configs,a⟩=some (true,()))(e:Int):Fz ⟨m.configs,a⟩ e=Fz m e:=by unfold Fz;rw[hv,hv']
theorem RF{x:qg}(ok:Ez 1048576 x)(hn:0<=x.now/\x.now<=999)(h5:x.servers.length=5)(hs:Fu x.sides=some (true,()))(hm:Er x.master=some (true,()))(hu:0<=x.masterUp/\x.masterUp<=3)(hl:FR x.lease=some (true,()))(hp:Fb x.places=some (true,()))(he:x.lease.epoch<=x.master.activated)(hS: ∀k (hk:k<x.servers.length),SV x.master x.servers[k] (k:Int)):Ee x=some (true,()):=by
 rcases US x ok with ⟨_,h1⟩| ⟨⟨k,hk,h0⟩,_⟩
 ·unfold Ee;rw[h1];simp only[EM,Eg.2 hn,h5,hs,hm,Eg.2 hu,hl,hp,ao,Ef,CJ,C1,if_neg (show ¬x.lease.epoch>x.master.activated by omega)];rfl
 ·exact absurd (hS k hk) h0
theorem Pr{c:nF}(h:1<=c.epoch):c≠⟨0,0,[],[]⟩:=λe=>by rw[e] at h;exact absurd h (by decide)
theorem X0{s t:qj}{c:nF}{l:List rk}{n z:Int}(okt:EA 1048576 t)(h:Ins s t c l n)(hn:EP c z=some (n,()))(h0:n≠0)(hl:ET l=some (true,()))(hlen:l.length<=maxLen)(hv:1<=s.version/\s.version<=2)(hc:1<=c.epoch/\c.epoch<=20)(ha: ∀e∈l,e.epoch<=c.epoch):Eh t z=some (true,()):=by
 have h16:=((Jw l hlen).1 hl).1;have hcut:cutAt l<=l.length:=Nat.sub_le _ _
 have tlog:ET t.log=some (true,()):=by
  rw[h.log];split
  ·exact RL hlen hl _
  ·exact hl
 have tlen:t.first+(t.log.length:Int)=(l.length:Int)/\0<=t.first/\t.first<=16:=by
  rw[h.first,h.log];split
  ·rw[co];omega
  ·omega
 obtain⟨e,e1,_⟩:=GU t.log (Ep okt.2.1)
 have he:e<=c.epoch:=(Vj (by omega) (λx hx=>ha x (by
  rw[h.log] at hx;split at hx
  ·exact bE hx
  ·exact hx))) _ e1
 have hcv:=Ei okt.1;unfold Eh;rw[vN (n:=t.first+(t.log.length:Int)) (by omega) (by omega),tlen.1,h.learned,OX,tlog,h.version,h.epoch,h.commit,I1 t.config hcv,h.config,hn,h.intact,e1];simp only[EM,Eg.2 hv,Eg.2 (show 0<=c.epoch/\c.epoch<=20 by omega),Eg.2 tlen.2,Eg.2 (show 0<=(l.length:Int)/\(l.length:Int)<=16 by omega),Eg.2 (show 0<=(l.length:Int)/\(l.length:Int)<=(l.length:Int) by omega),ao,Ef,CJ,C1,if_neg (Pr hc.1),if_neg (show ¬c.epoch<c.epoch by omega),if_neg (show ¬e>c.epoch by omega),show (n==0)=false from beq_eq_false_iff_ne.2 h0,BK];by_cases h3:n=3
 ·have hf:t.first=((cutAt l:Nat):Int):=by rw[h.first,if_pos h3]
  have hg: (t.log.length:Int)=(l.length:Int)-((cutAt l:Nat):Int):=by omega
  rw[show (n==3)=true from beq_iff_eq.2 h3,CJ,if_pos (by rw[hg];unfold cutAt;omega),G4];split
  ·rfl
  ·next hne=>
   rw[hf];have :cutAt l=0:=by unfold cutAt at*;omega
   rw[this];rfl
 ·have hf:t.first=0:=by rw[h.first,if_neg h3]
  rw[show (n==3)=false from beq_eq_false_iff_ne.2 h3,BK,hf];rfl
theorem Act0.cfg{x y:qg}{c:nF}{M:List Int}{l:List rk}(ok:Ez 1048576 x)(hv:Ee x=some (true,()))(h:Act0 x y c M l):FX maxLen c/\Ek c=some (true,())/\c.epoch=(x.master.configs.length:Int)/\x.master.activated<c.epoch/\Er y.master=some (true,())/\Fz y.master c.epoch=some (c,true,())/\(∀z∈M,0<=z/\z<5)/\(∀z,z∈M↔z∈c.replicas\/z∈c.witnesses):=by
 have vc:=Es ok hv;obtain⟨f1,f2,f3⟩:=I2 (Fh ok.2.2.1) vc.ml;obtain⟨c',b',q1,_,q3,_,q5,_⟩:=H6 x.master (x.master.configs.length:Int) ok.2.2.1 vc.ml;have hch:=h.chosen;unfold Ge at hch;rw[q1] at hch;simp only[ao,af,au,and_true] at hch;obtain⟨rfl,rfl⟩:=hch;obtain⟨cv,ce⟩:=q5 rfl;have hne:=h.newer
 have hm:Er y.master=some (true,()):=by rw[h.master];exact aa6 (Fh ok.2.2.1).1 f1 ⟨by show 0<=c'.epoch;omega,by show c'.epoch<=(x.master.configs.length:Int);omega⟩
 obtain⟨M',m1,_,_,m4,_,m6⟩:=Hi c' q3;obtain rfl:M'=M:=(Prod.mk.inj (Option.some.inj (m1.symm.trans h.members))).1;refine⟨q3,cv,ce,by omega,hm,?_,m4,m6 cv⟩;rw[h.master] at hm ⊢;rw[TG ok.2.2.1 vc.ml hm,ce];exact q1
theorem XK{x y:qg}{c:nF}{M:List Int}{l:List rk}(ok:Ez 1048576 x)(hv:Ee x=some (true,()))(oky:Ez 1048576 y)(hl:l.length<=maxLen)(h:Act0 x y c M l):Ee y=some (true,()):=by
 have vc:=Es ok hv;obtain⟨c3,cv,ce,ca,hm,hat,m4,m6⟩:=h.cfg ok hv;obtain⟨_,_,_,e1,e20,_⟩:=Fm c3 cv;have hcfg:y.master.configs=x.master.configs:=by rw[h.master]
 have hact:y.master.activated=c.epoch:=by rw[h.master]
 refine RF oky (by rw[h.now];exact vc.now) (by rw[h.len];exact vc.len) (by rw[h.sides];exact vc.sides) hm (by rw[h.up];exact vc.up) (by rw[h.lease];rfl) (by rw[h.places];exact vc.places) (by rw[h.lease,hact];show (0:Int)<=_;omega) λk hk=> ?_;have hk':k<x.servers.length:=by rw[<-h.len];exact hk
 have sv:=LP ok hv k hk';by_cases hM: ∃z∈M,z.toNat=k
 ·obtain⟨z,hz,rfl⟩:=hM;obtain⟨s,t,n,s1,_,_,n1,t1,hI⟩:=h.mem z hz;have hz4:=m4 z hz;have ez: ((z.toNat:Nat):Int)=z:=by omega
  rw[aq hk] at t1;rw[Option.some.inj t1,ez];rw[aq hk'] at s1;rw[Option.some.inj s1] at sv;have okt:EA 1048576 t:=Option.some.inj t1 ▸ oky.1.2 _ (DJ hk);obtain⟨n',n1',_,n3,_⟩:=Nm c z c3 cv;obtain rfl:n'=n:=(Prod.mk.inj (Option.some.inj (n1'.symm.trans n1))).1;refine⟨X0 okt hI n1 (λh0=>n3.1 h0 ((m6 z).1 hz)) h.isLog.1 hl (SO sv.val) ⟨e1,e20⟩ λe he=>by have:=h.isLog.2 e he;omega,by rw[hI.epoch,hcfg];omega,⟨0,by rw[hI.learned];rfl,by rw[hact];omega⟩,.inr ?_⟩;rw[hI.config,hact];exact⟨hat,cU _⟩
 ·obtain⟨ep,t1,svw⟩:=h.rest k _ (aq hk') λz hz e=>hM ⟨z,hz,e⟩;rw[aq hk] at t1;rw[Option.some.inj t1];obtain⟨n,n1,n2⟩:=svw.lrn;refine⟨svw.val,by rw[hcfg];exact svw.ep,⟨n,n1,by rw[hact];omega⟩,svw.cfg.imp id λhc=>⟨?_,by rw[hact];have:=hc.2;omega⟩⟩;rw[h.master] at hm ⊢;rw[TG ok.2.2.1 vc.ml hm];exact hc.1
structure Srv (y:qg) (c:nF) (M:List Int) (t:qj):Prop where
 act:Ej y.master=some (c,true,())
 mem:EO c=some (M,())
 at':y.servers[c.primary.toNat]? =some t
 now:Ew t c.primary=some (true,())
 ep:t.config.epoch=c.epoch
 rng:0<=c.primary/\c.primary<5
 hear: ∀z∈M,F0 y c.primary z=some (true,())
end
section
structure Vs (s:qj) (id n:Int):Prop where
 ver:1<=s.version/\s.version<=2
 ep:0<=s.epoch/\s.epoch<=20
 log:ET s.log=some (true,())
 lrn:ET s.learned=some (true,())
 first:0<=s.first/\s.first<=16
 len:s.first+(s.log.length:Int)<=16
 commit:0<=s.commit/\s.commit<=s.first+(s.log.length:Int)
 cfg:s.config≠⟨0,0,[],[]⟩
 intact:s.intact=true
 le:s.config.epoch<=s.epoch
 all: ∀e∈s.log,e.epoch<=s.config.epoch
 role:EP s.config id=some (n,())
 in':n≠0
 wit:n=3->s.log.length<=3/\(s.log.length=3\/s.first=0)
 rep:n≠3->s.first=0
theorem YX{s:qj}{id n:Int}(ok:EA 1048576 s)(h:Vs s id n)(h0:0<=s.config.epoch):Eh s id=some (true,()):=by
 obtain⟨e,e1,_⟩:=GU s.log (Ep ok.2.1);have he:e<=s.config.epoch:=Vj h0 h.all _ e1;have hf:=h.first;have hl:=h.len;have hle:=h.le;unfold Eh;rw[vN (n:=s.first+(s.log.length:Int)) (by omega) (by omega),h.log,h.lrn,I1 s.config (Ei ok.1),h.role,h.intact,e1];simp only[EM,Eg.2 h.ver,Eg.2 h.ep,Eg.2 hf,Eg.2 (show 0<=s.first+(s.log.length:Int)/\s.first+(s.log.length:Int)<=16 by omega),Eg.2 h.commit,ao,Ef,CJ,C1,if_neg h.cfg,if_neg (show ¬s.epoch<s.config.epoch by omega),if_neg (show ¬e>s.config.epoch by omega),show (n==0)=false from beq_eq_false_iff_ne.2 h.in',BK];by_cases h3:n=3
 ·obtain⟨w1,w2⟩:=h.wit h3;rw[show (n==3)=true from beq_iff_eq.2 h3,CJ,if_pos (by omega),G4];split
  ·rfl
  ·next hne=>rw[w2.resolve_left (by omega)];rfl
 ·rw[show (n==3)=false from beq_eq_false_iff_ne.2 h3,BK,h.rep h3];rfl
theorem Qg{s:qj}{id:Int}(ok:EA 1048576 s)(hv:Eh s id=some (true,()))(hc:s.config≠⟨0,0,[],[]⟩): ∃n,Vs s id n:=by
 have hcc:=Ei ok.1;obtain⟨f1,f2,f3,f4,f5,f6,f7,f8,f9⟩:=Gk ok hv;have hle:=YW ok hv;have hall:=WD ok hv;have hver:=SO hv;obtain⟨e,e1,_⟩:=GU s.log (Ep ok.2.1);obtain⟨n,n1,_⟩:=KX s.config id hcc;have no: ∀ {P:Prop},some (false,())=some (true,())->P:=λh=>by cases h
 unfold Eh at hv;rw[vN (n:=s.first+(s.log.length:Int)) (by omega) (by omega)] at hv;simp only[EM,f6,f7,I1 s.config hcc,decide_eq_false hc,n1,e1,ao,Ef,CJ,BK] at hv;refine Nn hv (λ_ hv=>Nn hv (λ_ hv=>Nn hv (λ_ hv=>Nn hv (λhw hv=>Nn hv (λ_ hv=>Nn hv (λhi hv=>Nn hv (λ_ h=>no h) λ_ hv=>Nn hv (λ_ h=>no h) λ_ hv=>Nn hv (λ_ h=>no h) λhn0 hv=> ?_) λ_ h=>no h) λ_ h=>no h) λ_ h=>no h) λ_ h=>no h) λ_ h=>no h) λ_ h=>no h;have hw:=Eg.1 hw;refine⟨n,hver,⟨f8,f9⟩,f6,f7,⟨f1,f2⟩,hw.2,⟨f4,f5⟩,hc,hi,hle,hall,n1,ne_of_beq_false hn0,λh3=> ?_,λh3=> ?_⟩
 ·rw[show (n==3)=true from beq_iff_eq.2 h3,CJ] at hv;refine Nn (x:=_) hv (λhl hv=>Nn hv (λh3l _=>⟨?_,.inl ?_⟩) λ_ hv=>⟨?_,.inr ?_⟩) λ_ h=>no h
  ·have : (s.log.length:Int)<=3:=of_decide_eq_true hl;omega
  ·have : (s.log.length:Int)=3:=eq_of_beq h3l;omega
  ·have : (s.log.length:Int)<=3:=of_decide_eq_true hl;omega
  ·exact eq_of_beq (Prod.mk.inj (Option.some.inj hv)).1
 ·rw[show (n==3)=false from beq_eq_false_iff_ne.2 h3,BK] at hv;exact eq_of_beq (Prod.mk.inj (Option.some.inj hv)).1
abbrev Hp(w:qj)(l:List rk)(n:Int):qj:=if n=3 then ⟨w.up,w.intact,w.version,w.epoch,w.config,((cutAt l:Nat):Int),l.drop (cutAt l),w.commit,w.learned⟩ else ⟨w.up,w.intact,w.version,w.epoch,w.config,w.first,l,w.commit,w.learned⟩
structure Pu (x y:qg) (id m:Int):Prop where
 valid:Ee x=some (true,())
 rid:0<=id/\id<5
 rm:0<=m/\m<5
 ex: ∃u w n,x.servers[id.toNat]? =some u/\Ew u id=some (true,())/\x.servers[m.toNat]? =some w/\F0 x id m=some (true,())/\EP u.config m=some (n,())/\(∃M,EO u.config=some (M,())/\m∈M)/\y=GH x (x.servers.set m.toNat (Hp w u.log n))
theorem abK(x:qg)(ok:Ez 1048576 x)(id m:Int):Ev (λy=>(y.2.1=false/\y.1=x)\/(y.2.1=true/\Pu x y.1 id m)) (Gf x id m):=by
 obtain⟨b,b1,_,b2⟩:=KW x ok id;have bad:Ev (λy:qg×Bool×Unit=>(y.2.1=false/\y.1=x)\/(y.2.1=true/\Pu x y.1 id m)) (some (x,false,())):=.ret (.inl ⟨rfl,rfl⟩);unfold Gf;rw[(EL x ok).1,ao,b1,ao];refine .brn (λe=> ?_) λ_=>bad;obtain⟨hv,h0,h5,hp⟩:=b2 e;have vc:=Es ok hv;refine .ip λ_=> .bd λs hs=> .bd λy hy=> ?_;obtain⟨s',s1,s2,s3⟩:=HY ok vc ⟨h0,h5⟩;obtain rfl:s'=s:=Option.some.inj (s1.symm.trans hs);obtain⟨M,m1,_,m3,m4,_,_⟩:=Hi s'.config (Ei s2.1);obtain rfl:y=(M,()):=Option.some.inj (hy.symm.trans m1);rw[(EG M m (by unfold maxLen;omega)).1,ao];refine .brn (λhm=> ?_) λ_=>bad;have hmM:m∈M:=of_decide_eq_true hm;have hm:=m4 m hmM;refine .bd λh6 hh6=> .brn (λe6=> .ip λ_=> .bd λt ht=> .ip λ_=> .bd λu hu=> .bd λr hr=> ?_) λ_=>bad;obtain rfl:t=s':=Option.some.inj ((show x.servers[id.toNat]? =some t from ht).symm.trans s1);obtain rfl:u=t:=Option.some.inj ((show x.servers[id.toNat]? =some u from hu).symm.trans s1);have hh:F0 x id m=some (true,()):=(show F0 x id m=some h6 from hh6).trans (congrArg some (Prod.ext e6 rfl));have hr:EP u.config m=some (r.1,()):=hr;refine .br (λh3=> ?_) λh3=> ?_
 ·have h3:r.1=3:=eq_of_beq h3;rw[SH u.log s2.2.1 (Gk s2 s3).2.2.2.2.2.1,ao];refine .ip λ_=> .ip λ_=> .bd λw hw=> .bd λw' hw'=> .ret (.inr ⟨rfl,hv,⟨h0,h5⟩,hm,u,w,r.1,s1,hp u s1,hw,hh,hr,⟨M,m1,hmM⟩,?_⟩);have hw:x.servers[m.toNat]? =some w:=hw;have hw': (x.servers.set m.toNat (⟨w.up,w.intact,w.version,w.epoch,w.config,((cutAt u.log:Nat):Int),w.log,w.commit,w.learned⟩:qj))[m.toNat]? =some w':=hw';rw[DK (C8 hw)] at hw';obtain rfl:=Option.some.inj hw';show (⟨x.now,(x.servers.set m.toNat _).set m.toNat _,x.sides,x.master,x.masterUp,x.lease,x.places⟩:qg)=_;rw[List.set_set,show Hp w u.log r.1=_ from if_pos h3]
 ·have h3: ¬r.1=3:=ne_of_beq_false h3;refine .bind (O5 _) λy15 h15=> .ip λ_=> .bd λw hw=> .ret (.inr ⟨rfl,hv,⟨h0,h5⟩,hm,u,w,r.1,s1,hp u s1,hw,hh,hr,⟨M,m1,hmM⟩,?_⟩);rw[show Hp w u.log r.1=_ from if_neg h3];show (⟨x.now,x.servers.set m.toNat _,x.sides,x.master,x.masterUp,x.lease,x.places⟩:qg)=_;rw[h15]
theorem VW{x:qg}(ok:Ez 1048576 x)(vc:VC x){a b:Int}(ha:0<=a/\a<5)(hb:0<=b/\b<5)(h:F0 x a b=some (true,())){p q:qj}(hp:x.servers[a.toNat]? =some p)(hq:x.servers[b.toNat]? =some q):q.up=true/\q.epoch=p.epoch/\q.commit<=(p.log.length:Int)/\q.config=p.config/\Hq x a=Hq x b:=by rw[(abx x ok vc ha hb).1] at h;have h:=(Prod.mk.inj (Option.some.inj h)).1;unfold Ub at h;rw[hp,hq] at h;simp at h;exact⟨h.2.1.1.1,h.2.1.1.2,h.2.1.2,h.2.2,h.1⟩
theorem abe{w u:qj}{m n:Int}(h:Vs w m n)(hl:ET u.log=some (true,()))(h16:u.log.length<=16)(hc:w.commit<=(u.log.length:Int))(ha: ∀e∈u.log,e.epoch<=w.config.epoch):Vs (Hp w u.log n) m n:=by
 have hcut:cutAt u.log<=u.log.length:=Nat.sub_le _ _;have hcut3:cutAt u.log=u.log.length-3:=rfl;have hm:u.log.length<=maxLen:=by unfold maxLen;omega
 unfold Hp;split
 ·next h3=>have ld: (u.log.drop (cutAt u.log)).length=u.log.length-cutAt u.log:=co;exact⟨h.ver,h.ep,RL hm hl _,h.lrn,by show 0<=((cutAt u.log:Nat):Int)/\((cutAt u.log:Nat):Int)<=16;omega,by show ((cutAt u.log:Nat):Int)+((u.log.drop (cutAt u.log)).length:Int)<=16;omega,⟨h.commit.1,by show w.commit<=((cutAt u.log:Nat):Int)+((u.log.drop (cutAt u.log)).length:Int);omega⟩,h.cfg,h.intact,h.le,λe he=>ha e (bE he),h.role,h.in',λ_=>⟨by show (u.log.drop (cutAt u.log)).length<=3;omega,by show (u.log.drop (cutAt u.log)).length=3\/((cutAt u.log:Nat):Int)=0;omega⟩,λhn=>absurd h3 hn⟩
 ·next h3=>have hf:=h.rep h3;exact⟨h.ver,h.ep,hl,h.lrn,h.first,by show w.first+(u.log.length:Int)<=16;omega,⟨h.commit.1,by show w.commit<=w.first+(u.log.length:Int);omega⟩,h.cfg,h.intact,h.le,ha,h.role,h.in',λhn=>absurd hn h3,h.rep⟩
theorem XA{x y:qg}(ok:Ez 1048576 x){id m:Int}(h:Pu x y id m):Ez 1048576 y/\Ee y=some (true,()):=by
 obtain⟨u,w,n,u1,u2,w1,w2,n1,_,rfl⟩:=h.ex;have vc:=Es ok h.valid;obtain⟨g1,g2,g3,g4,_⟩:=VW ok vc h.rid h.rm w2 u1 w1;have sv:=LP ok h.valid;have lu:=C8 u1;have lw:=C8 w1;have eu:x.servers[id.toNat] =u:=by rw[aq lu] at u1;exact Option.some.inj u1
 have ew:x.servers[m.toNat] =w:=by rw[aq lw] at w1;exact Option.some.inj w1
 have su:=sv id.toNat lu;have sw:=sv m.toNat lw;have zi: ((id.toNat:Nat):Int)=id:=by have:=h.rid;omega
 have zm: ((m.toNat:Nat):Int)=m:=by have:=h.rm;omega
 rw[eu,zi] at su;rw[ew,zm] at sw;have oku:=ok.1.2 u (aA u1);have okw:=ok.1.2 w (aA w1);have pf:=HK oku u2;obtain⟨_,_,_,ce1,_⟩:=Fm (Ei oku.1) pf.1;obtain⟨f1,f2,f3,f4,f5,f6,_⟩:=Gk oku su.val;obtain⟨n',hv⟩:=Qg okw sw.val (by rw[g4];exact Pr ce1)
 obtain rfl:n'=n:=by have:=hv.role;rw[g4,n1] at this;exact (Prod.mk.inj (Option.some.inj this)).1.symm
 have hvs:=abe (u:=u) hv f6 f3 g3 λe he=>by rw[g4];exact WD oku su.val e he
 have okv:EA 1048576 (Hp w u.log n'):=by
  have hu:=oku.2.1;unfold Hp;split
  ·exact⟨okw.1,by show List.length _<=_;rw[co];omega,okw.2.2⟩
  ·exact⟨okw.1,hu,okw.2.2⟩
 have hcfg: (Hp w u.log n').config=w.config:=by unfold Hp;split<;>rfl
 have hep: (Hp w u.log n').epoch=w.epoch:=by unfold Hp;split<;>rfl
 have hlr: (Hp w u.log n').learned=w.learned:=by unfold Hp;split<;>rfl
 refine QI ok h.valid _ DL (λt ht=>(cX ht).elim (ok.1.2 t) λe=>e ▸ okv) λk hk=> ?_;rw[Ec];split
 ·next e=>subst e;rw[zm];exact⟨YX okv hvs (by rw[hcfg,g4];omega),by rw[hep];exact sw.ep,by rw[hlr];exact sw.lrn,by rw[hcfg];exact sw.cfg⟩
 ·exact sv k (by rw[DL] at hk;exact hk)
structure Ck (x y:qg):Prop where
 now:y.now=x.now
 sides:y.sides=x.sides
 master:y.master=x.master
 mup:y.masterUp=x.masterUp
 lease:y.lease=x.lease
 places:y.places=x.places
 len:y.servers.length=x.servers.length
 srv: ∀ (j:Nat) s,x.servers[j]? =some s-> ∃t,y.servers[j]? =some t/\t.up=s.up/\t.version=s.version/\t.epoch=s.epoch/\t.config=s.config/\t.commit=s.commit/\t.learned=s.learned
theorem Ck.self(x:qg):Ck x x:=⟨rfl,rfl,rfl,rfl,rfl,rfl,rfl,λ_ s h=>⟨s,h,rfl,rfl,rfl,rfl,rfl,rfl⟩⟩
theorem Ck.trans{x y z:qg}(h:Ck x y)(k:Ck y z):Ck x z:=⟨k.now.trans h.now,k.sides.trans h.sides,k.master.trans h.master,k.mup.trans h.mup,k.lease.trans h.lease,k.places.trans h.places,k.len.trans h.len,λj s hs=>by obtain⟨t,t1,a1,a2,a3,a4,a5,a6⟩:=h.srv j s hs;obtain⟨u,u1,b1,b2,b3,b4,b5,b6⟩:=k.srv j t t1;exact⟨u,u1,b1.trans a1,b2.trans a2,b3.trans a3,b4.trans a4,b5.trans a5,b6.trans a6⟩⟩
theorem Ww{x y:qg}{id m:Int}(h:Pu x y id m):Ck x y:=by
 obtain⟨u,w,n,u1,u2,w1,w2,n1,_,rfl⟩:=h.ex;refine⟨rfl,rfl,rfl,rfl,rfl,rfl,DL,λj s hs=> ?_⟩;by_cases hj:m.toNat=j
 ·subst hj;obtain rfl:w=s:=Option.some.inj (w1.symm.trans hs);refine⟨Hp w u.log n,DK (C8 w1),?_⟩;unfold Hp;split<;>exact⟨rfl,rfl,rfl,rfl,rfl,rfl⟩
 ·exact⟨s,(DN hj).trans hs,rfl,rfl,rfl,rfl,rfl,rfl⟩
theorem YJ{x y:qg}(ok:Ez 1048576 x){id m:Int}(h:Pu x y id m){p:qj}(hp:x.servers[id.toNat]? =some p):y.servers[id.toNat]? =some p:=by
 obtain⟨u,w,n,u1,u2,w1,w2,n1,_,rfl⟩:=h.ex;obtain rfl:p=u:=Option.some.inj (hp.symm.trans u1);show (x.servers.set m.toNat (Hp w p.log n))[id.toNat]? =some p;by_cases hj:m.toNat=id.toNat
 ·have e:m=id:=by have:=h.rm;have:=h.rid;omega
  subst e;obtain rfl:w=p:=Option.some.inj (w1.symm.trans u1);have okp:=ok.1.2 w (aA u1);have pf:=HK okp u2;obtain⟨n',n1',_,_,n4⟩:=Nm w.config m (Ei okp.1) pf.1;obtain rfl:n'=n:=(Prod.mk.inj (Option.some.inj (n1'.symm.trans n1))).1;have h3: ¬n'=3:=λh=>n4 h pf.2;rw[DK (C8 w1)];unfold Hp;rw[if_neg h3]
 ·rw[DN hj];exact hp
end
section
def Rl(S T:List qj):Prop:=T.length=S.length/\ ∀ (j:Nat) s,S[j]? =some s-> ∃t,T[j]? =some t/\t.up=s.up/\t.version=s.version/\t.epoch=s.epoch/\t.config=s.config/\t.learned=s.learned/\t.first=s.first/\t.log=s.log
theorem Rl.set{S T:List qj}(h:Rl S T){i:Nat}{q:qj}(hq:T[i]? =some q)(n:Int):Rl S (T.set i ⟨q.up,q.intact,q.version,q.epoch,q.config,q.first,q.log,n,q.learned⟩):=
 ⟨by rw[DL];exact h.1,λj s hs=>by
  obtain⟨t,t1,t2⟩:=h.2 j s hs;by_cases hj:i=j
  ·subst hj;obtain rfl:t=q:=Option.some.inj (t1.symm.trans hq);exact⟨_,DK (C8 hq),t2⟩
  ·exact⟨t,by rw[DN hj];exact t1,t2⟩⟩
theorem ZU{x:qg}(ok:Ez 1048576 x)(hv:Ee x=some (true,())){c:nF}(hc:Ej x.master=some (c,true,())){k:Nat}{p:qj}(hp:x.servers[k]? =some p)(he:p.config.epoch=c.epoch):p.config=c:=by
 obtain⟨c',b',d1,_,d3,_,d5,_⟩:=Hs x ok hv;rw[hc] at d1;simp only[af,au,and_true] at d1;obtain⟨rfl,rfl⟩:=d1;obtain⟨cv,ce⟩:=d5 rfl;obtain⟨_,_,_,e1,_⟩:=Fm d3 cv;have hlt:=C8 hp;have sv:=LP ok hv k hlt;rw[aq hlt] at hp;rw[Option.some.inj hp] at sv;rcases sv.cfg with h| ⟨h,_⟩
 ·rw[h] at he;have : (0:Int)=c.epoch:=he;omega
 ·unfold Ej at hc;rw[he,ce] at h;rw[h,ao] at hc;simp only[af,au,and_true] at hc;exact hc
theorem YI(x:qg)(ok:Ez 1048576 x)(n:nF):Ev (λy=>y.1=x\/(Ee x=some (true,())/\Ek n=some (true,())/\n.epoch=(x.master.configs.length:Int)+1/\y.1=⟨x.now,x.servers,x.sides,⟨x.master.configs++ [n],x.master.activated⟩,x.masterUp,x.lease,x.places⟩)) (F4 x n):=by
 unfold F4;rw[(EL x ok).1,ao];refine .bd λv hv=> .brn (λev=> .br (λ_=> .ret (.inl rfl)) λ_=> ?_) λ_=> .ret (.inl rfl);have hv:Ee x=some (true,()):=hv.trans (congrArg some (Prod.ext ev rfl));have vc:=Es ok hv;have hml:=TP ok.2.2.1 vc.ml
 have pc:Ev (λy=>y.2.1=true->Ek n=some (true,())/\n.epoch=(x.master.configs.length:Int)+1/\y.1=⟨x.master.configs++ [n],x.master.activated⟩) (GZ x.master n):=by unfold GZ;rw[(Ob x.master ok.2.2.1).1,ao];refine .bd λ_ _=> .brn (λ_=> .bd λw hw=> .brn (λew=> .brn (λee=> .bind (UW n) λy hy=> .ip λ_=> .ret λ_=>⟨hw.trans (congrArg some (Prod.ext ew rfl)),?_,by rw[hy]⟩) λ_=> .ret nofun) λ_=> .ret nofun) λ_=> .ret nofun;rw[eq_of_beq ee,vN (by omega) (by omega)]
 refine .bind pc λy hy=> .brn (λe=> .ret (.inr ⟨hv,(hy e).1,(hy e).2.1,?_⟩)) λ_=> .ret (.inl rfl);rw[(hy e).2.2]
def Cd(x:qg)(e id z:Int):Prop:=∃s,x.servers[z.toNat]? =some s/\s.up=true/\s.config.epoch=e/\ES x.sides id z=some (true,())
theorem Xe(L:List nF)(n:nF)(act e:Int)(hl:L.length<=100)(h1:Er ⟨L,act⟩=some (true,()))(h2:Er ⟨L++ [n],act⟩=some (true,()))(he:1<=e/\e<=(L.length:Int)):Fz ⟨L++ [n],act⟩ e=Fz ⟨L,act⟩ e:=by unfold Fz;rw[h1,h2];simp only[EM,Eg.2 he,Eg.2 (show 1<=e/\e<=(((L++ [n]).length:Nat):Int) by rw[bJ,cy];omega),ao,Ef,CJ];rw[vN (by omega) (by omega),aW (by omega)]
end
section
def Dst(l:List rk):Prop:=∀ (i j:Nat) a b,l[i]? =some a->l[j]? =some b->a.op.client=b.op.client->a.op.seq=b.op.seq->i=j
def Pf(a b:List rk):Prop:=∀ (i:Nat) e,a[i]? =some e->b[i]? =some e
theorem Pf.refl(a:List rk):Pf a a:=λ_ _ h=>h
theorem Pf.trans{a b c:List rk}(h:Pf a b)(k:Pf b c):Pf a c:=λi e hi=>k i e (h i e hi)
theorem Pf.nil(a:List rk):Pf [] a:=λi e h=>by simp at h
theorem Pf.len{a b:List rk}(h:Pf a b):a.length<=b.length:=by
 rcases bn a.length with h0|h0
 ·omega
 ·have h1:=h (a.length-1) _ (aq (by omega));have:=C8 h1;omega
theorem Pf.dst{a b:List rk}(h:Pf a b)(d:Dst b):Dst a:=λi j x y hi hj=>d i j x y (h i x hi) (h j y hj)
theorem Pf.app(a b:List rk):Pf a (a++b):=λi e h=>by rw[aW (C8 h)];exact h
theorem Zi{l:List rk}{e:rk}(d:Dst l)(h: ∀x∈l,¬ (x.op.client=e.op.client/\x.op.seq=e.op.seq)):Dst (l++ [e]):=by
 intro i j a b hi hj h1 h2;have hil:=C8 hi;have hjl:=C8 hj;rw[bJ,cy] at hil hjl;by_cases ei:i<l.length
 ·rw[aW ei] at hi;by_cases ej:j<l.length
  ·rw[aW ej] at hj;exact d i j a b hi hj h1 h2
  ·obtain rfl:j=l.length:=by omega
   rw[Ea] at hj;obtain rfl:=Option.some.inj hj;exact absurd ⟨h1,h2⟩ (h a (aA hi))
 ·obtain rfl:i=l.length:=by omega
  rw[Ea] at hi;obtain rfl:=Option.some.inj hi;by_cases ej:j<l.length
  ·rw[aW ej] at hj;exact absurd ⟨h1.symm,h2.symm⟩ (h b (aA hj))
  ·omega
structure In (G H:List rk) (s:qj):Prop where
 len:s.first+(s.log.length:Int)<=(G.length:Int)
 log: ∀ (i:Nat) e,s.log[i]? =some e->G[s.first.toNat+i]? =some e
 com: ∀ (i:Nat),(i:Int)<s.commit-> ∃e,G[i]? =some e/\H[i]? =some e
structure LQ (x:qg) (G:Int->List rk) (H:List rk):Prop where
 mem: ∀ (k:Nat) s,x.servers[k]? =some s->s.config≠⟨0,0,[],[]⟩->In (G s.config.epoch) H s/\(s.config.primary=(k:Int)->s.log=G s.config.epoch)/\(s.config.epoch=x.master.activated->(H.length:Int)<=s.first+(s.log.length:Int))
 dst: ∀e,Dst (G e)
 lrn: ∀ (k:Nat) s,x.servers[k]? =some s->Pf s.learned H
 act:Pf H (G x.master.activated)
 non:x.master.activated=0->H= []
def VJ(x:qg):Prop:=∀ (k:Nat) p,x.servers[k]? =some p->p.config≠⟨0,0,[],[]⟩->p.config.epoch<x.master.activated-> ∀M,EO p.config=some (M,())-> ∃m∈M,∀s,x.servers[m.toNat]? =some s-> ¬ (s.config=p.config/\s.epoch=p.config.epoch)
def Kw(x y:qg):Prop:=y.master.activated=x.master.activated/\ ∀ (k:Nat) t,y.servers[k]? =some t-> ∃s,x.servers[k]? =some s/\((t.config=s.config/\s.epoch<=t.epoch/\t.first=s.first/\t.log=s.log/\t.commit=s.commit/\t.learned=s.learned)\/(t.config=⟨0,0,[],[]⟩/\t.learned= []))
theorem Kw.self(x:qg):Kw x x:=⟨rfl,λ_ t h=>⟨t,h,.inl ⟨rfl,cU _,rfl,rfl,rfl,rfl⟩⟩⟩
theorem LQ.kw{x y:qg}{G:Int->List rk}{H:List rk}(h:LQ x G H)(k:Kw x y):LQ y G H:=by
 refine⟨λj t ht hc=> ?_,h.dst,λj t ht=> ?_,?_,λe=>h.non (k.1.symm.trans e)⟩
 ·obtain⟨s,hs,⟨k1,_,k2,k3,k4,_⟩| ⟨k1,_⟩⟩:=k.2 j t ht
  ·obtain⟨⟨a1,a2,a3⟩,b,c⟩:=h.mem j s hs (k1 ▸ hc);rw[k1];exact⟨⟨by rw[k2,k3];exact a1,by rw[k2,k3];exact a2,by rw[k4];exact a3⟩,λe=>by rw[k3];exact b e,λe=>by rw[k2,k3];exact c (e.trans k.1)⟩
  ·exact absurd k1 hc
 ·obtain⟨s,hs,⟨_,_,_,_,_,k5⟩| ⟨_,k5⟩⟩:=k.2 j t ht
  ·rw[k5];exact h.lrn j s hs
  ·rw[k5];exact .nil _
 ·rw[k.1];exact h.act
theorem KD{x:qg}(ok:Ez 1048576 x)(hv:Ee x=some (true,())){k:Nat}{s:qj}(hs:x.servers[k]? =some s):SV x.master s (k:Int)/\EA 1048576 s:=by have hlt:=C8 hs;have sv:=LP ok hv k hlt;have okx:=ok.1.2 _ (DJ hlt);rw[aq hlt] at hs;rw[Option.some.inj hs] at sv okx;exact⟨sv,okx⟩
theorem VJ.kw{x y:qg}(ok:Ez 1048576 x)(hv:Ee x=some (true,()))(h:VJ x)(k:Kw x y):VJ y:=by
 intro j p hp hc he M hM;obtain⟨s,hs,⟨k1,_⟩| ⟨k1,_⟩⟩:=k.2 j p hp
 ·rw[k1] at hc he hM ⊢;rw[k.1] at he;obtain⟨m,hm,hn⟩:=h j s hs hc he M hM;refine⟨m,hm,λt ht ⟨e1,e2⟩=> ?_⟩;obtain⟨u,hu,⟨q1,q2,_⟩| ⟨q1,_⟩⟩:=k.2 _ t ht
  ·rw[q1] at e1;obtain⟨su,oku⟩:=KD ok hv hu;obtain⟨n,v⟩:=Qg oku su.val (by rw[e1];exact hc);have hle:=v.le;rw[e1] at hle;exact hn u hu ⟨e1,by omega⟩
  ·exact hc (e1.symm.trans q1)
 ·exact absurd k1 hc
theorem W3{x:qg}(ok:Ez 1048576 x)(hv:Ee x=some (true,())){j k:Nat}{s t:qj}(hs:x.servers[j]? =some s)(ht:x.servers[k]? =some t)(hc:s.config≠⟨0,0,[],[]⟩)(hd:t.config≠⟨0,0,[],[]⟩)(he:s.config.epoch=t.config.epoch):s.config=t.config:=by have h1:=((KD ok hv hs).1.cfg.resolve_left hc).1;have h2:=((KD ok hv ht).1.cfg.resolve_left hd).1;rw[he,h2] at h1;exact ((Prod.mk.inj (Option.some.inj h1)).1).symm
theorem LQ.prim{x:qg}{G:Int->List rk}{H:List rk}(ok:Ez 1048576 x)(hv:Ee x=some (true,()))(h:LQ x G H){id:Int}(h0:0<=id){s:qj}(hs:x.servers[id.toNat]? =some s)(hc:s.config≠⟨0,0,[],[]⟩)(hp:s.config.primary=id):s.log=G s.config.epoch/\s.first=0:=by obtain⟨i1,i2,i3⟩:=h.mem _ s hs hc;have hG:s.log=G s.config.epoch:=i2 (by rw[hp];exact (DT h0).symm);refine⟨hG,?_⟩;have hl:=i1.len;rw[<-hG] at hl;obtain⟨sv,oks⟩:=KD ok hv hs;have:=(Gk oks sv.val).1;omega
theorem LQ.append{x:qg}{G:Int->List rk}{H:List rk}(ok:Ez 1048576 x)(hv:Ee x=some (true,()))(h:LQ x G H){id:Int}(h0:0<=id){s:qj}(hs:x.servers[id.toNat]? =some s)(hc:s.config≠⟨0,0,[],[]⟩)(hp:s.config.primary=id)(e:rk)(hn: ∀a∈s.log,¬ (a.op.client=e.op.client/\a.op.seq=e.op.seq)):
  ∃G',LQ (GH x (x.servers.set id.toNat ⟨s.up,s.intact,s.version,s.epoch,s.config,s.first,s.log++ [e],s.commit,s.learned⟩)) G' H:=by
 obtain⟨i1,i2,i3⟩:=h.mem _ s hs hc;obtain⟨hG,hf⟩:=h.prim ok hv h0 hs hc hp
 have gp: ∀q,Pf (G q) (if q=s.config.epoch then s.log++ [e] else G q):=λq=>by
  split
  ·next hq=>rw[hq,<-hG];exact .app _ _
  ·exact .refl _
 refine⟨λq=>if q=s.config.epoch then s.log++ [e] else G q,λk t ht hct=> ?_,λq=> ?_,λk t ht=> ?_,h.act.trans (gp _),h.non⟩
 ·have ht: (x.servers.set id.toNat (⟨s.up,s.intact,s.version,s.epoch,s.config,s.first,s.log++ [e],s.commit,s.learned⟩:qj))[k]? =some t:=ht;by_cases hk:id.toNat=k
  ·subst hk;rw[DK (C8 hs)] at ht;obtain rfl:=Option.some.inj ht;dsimp only;rw[if_pos rfl];refine⟨⟨?_,λi a hi=> ?_,λi hi=> ?_⟩,λ_=>rfl,λhA=> ?_⟩
   ·show s.first+((s.log++ [e]).length:Int)<=((s.log++ [e]).length:Int);omega
   ·show (s.log++ [e])[s.first.toNat+i]? =some a;rw[hf];show (s.log++ [e])[0+i]? =some a;rw[aP];exact hi
   ·obtain⟨a,a1,a2⟩:=i1.com i hi;rw[<-hG] at a1;exact⟨a,Pf.app _ _ _ _ a1,a2⟩
   ·have:=i3 hA;show (H.length:Int)<=s.first+((s.log++ [e]).length:Int);rw[bJ,cy];omega
  ·rw[DN hk] at ht;obtain⟨⟨j1,j2,j3⟩,j4,j5⟩:=h.mem k t ht hct;refine⟨⟨?_,λi a hi=>gp _ _ _ (j2 i a hi),λi hi=> ?_⟩,λhpk=> ?_,j5⟩
   ·have:=(gp t.config.epoch).len;omega
   ·obtain⟨a,a1,a2⟩:=j3 i hi;exact⟨a,gp _ _ _ a1,a2⟩
   ·rw[if_neg]
    ·exact j4 hpk
    ·intro he;have:=W3 ok hv ht hs hct hc he;rw[this,hp] at hpk;exact hk (by omega)
 ·split
  ·exact Zi (by rw[hG];exact h.dst _) hn
  ·exact h.dst q
 ·have ht: (x.servers.set id.toNat (⟨s.up,s.intact,s.version,s.epoch,s.config,s.first,s.log++ [e],s.commit,s.learned⟩:qj))[k]? =some t:=ht;by_cases hk:id.toNat=k
  ·subst hk;rw[DK (C8 hs)] at ht;obtain rfl:=Option.some.inj ht;exact h.lrn _ s hs
  ·rw[DN hk] at ht;exact h.lrn k t ht
theorem abc{w:qj}{l:List rk}{n:Int}(h:n≠3->w.first=0): (Hp w l n).config=w.config/\(Hp w l n).commit=w.commit/\(Hp w l n).learned=w.learned/\(Hp w l n).epoch=w.epoch/\(Hp w l n).first+((Hp w l n).log.length:Int)=(l.length:Int)/\(∀ (i:Nat) e,(Hp w l n).log[i]? =some e->l[(Hp w l n).first.toNat+i]? =some e)/\(n≠3->(Hp w l n).log=l):=by
 unfold Hp;split
 ·next h3=>
  refine⟨rfl,rfl,rfl,rfl,?_,λi e hi=> ?_,λhn=>absurd h3 hn⟩
  ·show ((cutAt l:Nat):Int)+((l.drop (cutAt l)).length:Int)=_;have :cutAt l<=l.length:=Nat.sub_le _ _;rw[co];omega
  ·show l[((cutAt l:Nat):Int).toNat+i]? =some e;rw[DG,<-bf];exact hi
 ·next h3=>
  have hf:=h h3;refine⟨rfl,rfl,rfl,rfl,?_,λi e hi=> ?_,λ_=>rfl⟩
  ·show w.first+(l.length:Int)=_;omega
  ·show l[w.first.toNat+i]? =some e;rw[hf];show l[0+i]? =some e;rw[aP];exact hi
theorem LQ.push{x y:qg}{G:Int->List rk}{H:List rk}(ok:Ez 1048576 x)(h:LQ x G H){id m:Int}(hp:Pu x y id m):LQ y G H:=by
 obtain⟨u,w,n,u1,u2,w1,w2,n1,_,rfl⟩:=hp.ex;have hv:=hp.valid;have vc:=Es ok hv;have oku:=ok.1.2 u (aA u1);have okw:=ok.1.2 w (aA w1);obtain⟨_,_,_,g4,_⟩:=VW ok vc hp.rid hp.rm w2 u1 w1;have pf:=HK oku u2;have hcu:u.config≠⟨0,0,[],[]⟩:=Pr (Fm (Ei oku.1) pf.1).2.2.2.1;have hcw:w.config≠⟨0,0,[],[]⟩:=by rw[g4];exact hcu
 have hm: ((m.toNat:Nat):Int)=m:=DT hp.rm.1;obtain⟨hG,hfu⟩:=h.prim ok hv hp.rid.1 u1 hcu pf.2.symm;obtain⟨i1,i2,i3⟩:=h.mem _ u u1 hcu;obtain⟨j1,j2,j3⟩:=h.mem _ w w1 hcw;obtain⟨n',n1',_,_,n4⟩:=Nm u.config m (Ei oku.1) pf.1;obtain rfl:n'=n:=(Prod.mk.inj (Option.some.inj (n1'.symm.trans n1))).1
 have hwf:n'≠3->w.first=0:=λh3=>by obtain⟨r,vs⟩:=Qg okw (KD ok hv w1).1.val hcw;have hr:=vs.role;rw[hm,g4,n1] at hr;obtain rfl:n'=r:=(Prod.mk.inj (Option.some.inj hr)).1;exact vs.rep h3
 obtain⟨p1,p2,p3,_,p5,p6,p7⟩:=abc (l:=u.log) hwf;refine⟨λk t ht hct=> ?_,h.dst,λk t ht=> ?_,h.act,h.non⟩
 ·have ht: (x.servers.set m.toNat (Hp w u.log n'))[k]? =some t:=ht;by_cases hk:m.toNat=k
  ·subst hk;rw[DK (C8 w1)] at ht;generalize Hp w u.log n'=t' at*;obtain rfl:=Option.some.inj ht;rw[p1,g4,<-hG];refine⟨⟨by rw[p5];exact cU _,p6,λi hi=> ?_⟩,λhpm=> ?_,λhA=> ?_⟩
   ·rw[p2] at hi;have:=j1.com i hi;rw[g4,<-hG] at this;exact this
   ·exact p7 λh3=>n4 h3 (by rw[hpm,hm])
   ·rw[p5];have:=i3 hA;omega
  ·rw[DN hk] at ht;exact h.mem k t ht hct
 ·have ht: (x.servers.set m.toNat (Hp w u.log n'))[k]? =some t:=ht;by_cases hk:m.toNat=k
  ·subst hk;rw[DK (C8 w1)] at ht;obtain rfl:=Option.some.inj ht;rw[p3];exact h.lrn _ w w1
  ·rw[DN hk] at ht;exact h.lrn k t ht
theorem VJ.push{x y:qg}(ok:Ez 1048576 x)(h:VJ x){id m:Int}(hp:Pu x y id m):VJ y:=by
 have ck:=Ww hp
 have back: ∀ (k:Nat) t,y.servers[k]? =some t-> ∃s,x.servers[k]? =some s/\t.epoch=s.epoch/\t.config=s.config:=λk t ht=>by have hlt:=C8 ht;rw[ck.len] at hlt;obtain⟨t',t1,_,_,t4,t5,_⟩:=ck.srv k _ (aq hlt);obtain rfl:=Option.some.inj (t1.symm.trans ht);exact⟨_,aq hlt,t4,t5⟩
 intro k p hpk hc he M hM;obtain⟨s,s1,_,s3⟩:=back k p hpk;rw[s3] at hc he hM ⊢;rw[ck.master] at he;obtain⟨z,hz,hn⟩:=h k s s1 hc he M hM;refine⟨z,hz,λt ht hh=> ?_⟩;obtain⟨q,q1,q2,q3⟩:=back _ t ht;rw[q2,q3] at hh;exact hn q q1 hh
theorem VJ.last{x:qg}(ok:Ez 1048576 x)(hv:Ee x=some (true,()))(h:VJ x){id:Int}(hid:0<=id/\id<5){p:qj}(hp:x.servers[id.toNat]? =some p)(hpn:Ew p id=some (true,())){M:List Int}(hM:EO p.config=some (M,()))(hall: ∀m∈M,∀t,x.servers[m.toNat]? =some t->t.config=p.config/\t.epoch=p.epoch):p.config.epoch=x.master.activated:=by
 obtain⟨sv,okp⟩:=KD ok hv hp;have pf:=HK okp hpn;have hc:p.config≠⟨0,0,[],[]⟩:=Pr (Fm (Ei okp.1) pf.1).2.2.2.1;have hle:=(sv.cfg.resolve_left hc).2;rcases Int.lt_or_eq_of_le hle with hlt|he
 ·obtain⟨m,hm,hn⟩:=h _ p hp hc hlt M hM;obtain⟨M',m1,_,_,m4,_⟩:=Hi p.config (Ei okp.1);obtain rfl:M'=M:=(Prod.mk.inj (Option.some.inj (m1.symm.trans hM))).1;obtain⟨t,t1,_⟩:=HY ok (Es ok hv) (m4 m hm);obtain⟨e1,e2⟩:=hall m hm t t1;exact absurd ⟨e1,e2.trans (TT okp hpn)⟩ (hn t t1)
 ·exact he
theorem LQ.commit{x y:qg}{G:Int->List rk}{H:List rk}(ok:Ez 1048576 x)(hv:Ee x=some (true,()))(h:LQ x G H)(ho:VJ x){id:Int}(hid:0<=id/\id<5){p:qj}(hp:x.servers[id.toNat]? =some p)(hpn:Ew p id=some (true,())){M:List Int}(hM:EO p.config=some (M,()))(hall: ∀m∈M,∀t,x.servers[m.toNat]? =some t->t.config=p.config/\t.epoch=p.epoch/\t.first+(t.log.length:Int)=(p.log.length:Int))(hm:y.master=x.master)
  (hS: ∀ (k:Nat) t,y.servers[k]? =some t-> ∃s,x.servers[k]? =some s/\t.config=s.config/\t.first=s.first/\t.log=s.log/\t.learned=s.learned/\(t.commit=s.commit\/(t.commit=(p.log.length:Int)/\s.config=p.config))):LQ y G p.log:=by
 obtain⟨sv,okp⟩:=KD ok hv hp;have pf:=HK okp hpn;have hc:p.config≠⟨0,0,[],[]⟩:=Pr (Fm (Ei okp.1) pf.1).2.2.2.1;have hA:=ho.last ok hv hid hp hpn hM λm hm t ht=>⟨(hall m hm t ht).1,(hall m hm t ht).2.1⟩
 obtain⟨hG,hf⟩:=h.prim ok hv hid.1 hp hc pf.2.symm;have hH:Pf H p.log:=by rw[hG,hA];exact h.act
 refine⟨λk t ht hct=> ?_,h.dst,λk t ht=> ?_,?_,λe=> ?_⟩
 ·obtain⟨s,s1,s2,s3,s4,_,s6⟩:=hS k t ht;rw[s2] at hct;obtain⟨⟨j1,j2,j3⟩,j4,j5⟩:=h.mem k s s1 hct;rw[s2];refine⟨⟨by rw[s3,s4];exact j1,by rw[s3,s4];exact j2,λi hi=> ?_⟩,λe=>by rw[s4];exact j4 e,λe=> ?_⟩
  ·rcases s6 with s6| ⟨s6,s7⟩
   ·rw[s6] at hi;obtain⟨a,a1,a2⟩:=j3 i hi;exact⟨a,a1,hH _ _ a2⟩
   ·rw[s6] at hi;have hi:i<p.log.length:=by omega
    rw[s7,<-hG];exact⟨_,aq hi,aq hi⟩
  ·have hsc:s.config=p.config:=W3 ok hv s1 hp hct hc (by rw[hA,<-hm];exact e);obtain⟨ss,oks⟩:=KD ok hv s1;obtain⟨n,vs⟩:=Qg oks ss.val hct;obtain⟨n',n1,_,n3,_⟩:=Nm s.config (k:Int) (Ei oks.1) (by rw[hsc];exact pf.1);obtain rfl:n'=n:=(Prod.mk.inj (Option.some.inj (n1.symm.trans vs.role))).1;obtain⟨M',m1,_,_,_,_,m6⟩:=Hi p.config (Ei okp.1);obtain rfl:M'=M:=(Prod.mk.inj (Option.some.inj (m1.symm.trans hM))).1;have hk: (k:Int)∈M':=(m6 pf.1 _).2 (by rw[<-hsc];exact Classical.byContradiction λh=>vs.in' (n3.2 h));have:=(hall _ hk s (by rw[DG];exact s1)).2.2;rw[s3,s4];omega
 ·obtain⟨s,s1,_,_,_,s5,_⟩:=hS k t ht;rw[s5];exact (h.lrn k s s1).trans hH
 ·rw[hm,<-hA,<-hG];exact .refl _
 ·rw[hm,<-hA] at e;have:=(Fm (Ei okp.1) pf.1).2.2.2.1;omega
end
section
theorem aaG{c:nF}{y n:Int}(h:FX maxLen c)(hn:EP c y=some (n,()))(h3:n=3):y∉c.replicas:=by intro hy;obtain⟨v,v1,_⟩:=GP c h;unfold EP at hn;simp only[v1,(EG c.replicas y h.1).1,ao,Ef,decide_eq_true hy,CJ] at hn;have no: ∀ {k:Int},k≠3->some (k,())=some (n,())->False:=λhk e=>hk ((Prod.mk.inj (Option.some.inj e)).1.trans h3);exact Nn hn (λ_ hn=>Nn hn (λ_=>no (by decide)) λ_=>no (by decide)) λ_=>no (by decide)
theorem LQ.install{x y:qg}{G:Int->List rk}{H:List rk}{c:nF}{M:List Int}{l:List rk}(ok:Ez 1048576 x)(hv:Ee x=some (true,()))(h:LQ x G H)(a:aaJ x y c M l)(hH:Pf H l)(hd:Dst l):LQ y (λq=>if q=c.epoch then l else G q) l:=by
 obtain⟨c3,cv,ce,ca,hm,hat,m4,m6⟩:=a.cfg ok hv;have ym:y.master.activated=c.epoch:=by rw[a.master]
 have hcut:cutAt l<=l.length:=Nat.sub_le _ _
 have kind: ∀ (k:Nat) t,y.servers[k]? =some t->(∃s n,Ins s t c l n/\EP c (k:Int)=some (n,()))\/ ∃s ep,x.servers[k]? =some s/\t=Ho s ep:=λk t ht=>by
  by_cases hz: ∃z∈M,z.toNat=k
  ·obtain⟨z,hz,rfl⟩:=hz;obtain⟨s,t',n,_,_,_,a4,a5,a6⟩:=a.mem z hz;obtain rfl:=Option.some.inj (a5.symm.trans ht);exact .inl ⟨s,n,a6,by rw[DT (m4 z hz).1];exact a4⟩
  ·have hlt:=C8 ht;rw[a.len] at hlt;obtain⟨ep,e1,_⟩:=a.rest k _ (aq hlt) λz h1 h2=>hz ⟨z,h1,h2⟩;exact .inr ⟨_,ep,aq hlt,Option.some.inj (ht.symm.trans e1)⟩
 refine⟨λk t ht hct=> ?_,λq=> ?_,λk t ht=> ?_,?_,λe=> ?_⟩
 ·rcases kind k t ht with ⟨s,n,i,hn⟩| ⟨s,ep,hs,rfl⟩
  ·rw[i.config,if_pos rfl]
   have lenE:t.first+(t.log.length:Int)=(l.length:Int):=by
    rw[i.first,i.log];split
    ·rw[co];omega
    ·omega
   refine⟨⟨by rw[lenE];exact cU _,λj e he=> ?_,λj hj=> ?_⟩,λhp=> ?_,λ_=>by rw[lenE];exact cU _⟩
   ·rw[i.log] at he;rw[i.first];split
    ·next h3=>rw[if_pos h3] at he;rw[DG,<-bf];exact he
    ·next h3=>rw[if_neg h3] at he;show l[0+j]? =some e;rw[aP];exact he
   ·rw[i.commit] at hj;have hj:j<l.length:=by omega
    exact⟨_,aq hj,aq hj⟩
   ·obtain⟨n',n1,_,_,n4⟩:=Nm c (k:Int) c3 cv;obtain rfl:n'=n:=(Prod.mk.inj (Option.some.inj (n1.symm.trans hn))).1;rw[i.log,if_neg λh3=>n4 h3 hp.symm]
  ·have hct:s.config≠⟨0,0,[],[]⟩:=hct;have hle:=((KD ok hv hs).1.cfg.resolve_left hct).2;obtain⟨⟨j1,j2,j3⟩,j4,_⟩:=h.mem k s hs hct;show In (if s.config.epoch=c.epoch then l else G s.config.epoch) l _/\(s.config.primary=(k:Int)->s.log=if s.config.epoch=c.epoch then l else G s.config.epoch)/\(s.config.epoch=y.master.activated->_);rw[if_neg (show ¬s.config.epoch=c.epoch by omega)];refine⟨⟨j1,j2,λi hi=> ?_⟩,j4,λe=> ?_⟩
   ·obtain⟨e,e1,e2⟩:=j3 i hi;exact⟨e,e1,hH _ _ e2⟩
   ·rw[ym] at e;have e:s.config.epoch=c.epoch:=e;omega
 ·split
  ·exact hd
  ·exact h.dst q
 ·rcases kind k t ht with ⟨s,n,i,_⟩| ⟨s,ep,hs,rfl⟩
  ·rw[i.learned];exact .nil _
  ·exact (h.lrn k s hs).trans hH
 ·rw[ym,if_pos rfl];exact .refl _
 ·rw[ym] at e;have:=(Fm c3 cv).2.2.2.1;omega
theorem VJ.install{x y:qg}{c:nF}{M:List Int}{l:List rk}(ok:Ez 1048576 x)(hv:Ee x=some (true,()))(h:VJ x)(a:aaJ x y c M l)
  (hr: ∀ (k:Nat) s,x.servers[k]? =some s->(∀z∈M,z.toNat≠k)-> ∃ep,y.servers[k]? =some (Ho s ep)/\s.epoch<=ep)
  (hs: ∀o Mo,Ej x.master=some (o,true,())->EO o=some (Mo,())-> ∃z∈Mo,(∃q∈M,q.toNat=z.toNat)\/ ∀t,y.servers[z.toNat]? =some t->c.epoch<=t.epoch):VJ y:=by
 obtain⟨c3,cv,ce,ca,hm,hat,m4,m6⟩:=a.cfg ok hv;have ym:y.master.activated=c.epoch:=by rw[a.master]
 have new: ∀ (q:Int),q∈M-> ∀t,y.servers[q.toNat]? =some t->t.config=c:=λq hq t ht=>by obtain⟨s,t',n,_,_,_,_,a5,a6⟩:=a.mem q hq;obtain rfl:=Option.some.inj (a5.symm.trans ht);exact a6.config
 have rest: ∀ (k:Nat) t,y.servers[k]? =some t->t.config≠c-> ∃s ep,x.servers[k]? =some s/\t=Ho s ep/\s.epoch<=ep:=λk t ht hne=>by have hlt:=C8 ht;rw[a.len] at hlt;obtain⟨ep,e1,e2⟩:=hr k _ (aq hlt) λz h1 h2=>hne (new z h1 t (by rw[h2];exact ht));exact⟨_,ep,aq hlt,Option.some.inj (ht.symm.trans e1),e2⟩
 intro k p hp hc he Mp hMp;rw[ym] at he;have hpc:p.config≠c:=λe=>by rw[e] at he;exact absurd he (DM _)
 obtain⟨s,ep,s1,rfl,_⟩:=rest k p hp hpc;have hc:s.config≠⟨0,0,[],[]⟩:=hc;have he:s.config.epoch<c.epoch:=he;have hpc:s.config≠c:=hpc;obtain⟨sv,oks⟩:=KD ok hv s1;obtain⟨sc,sle⟩:=sv.cfg.resolve_left hc;rcases Int.lt_or_eq_of_le sle with hlt|heq
 ·obtain⟨m,hm,hn⟩:=h k s s1 hc hlt Mp hMp;refine⟨m,hm,λt ht ⟨e1,e2⟩=> ?_⟩;have e1:t.config=s.config:=e1;have e2:t.epoch=s.config.epoch:=e2;obtain⟨u,eu,u1,rfl,u2⟩:=rest _ t ht (by rw[e1];exact hpc);have e1:u.config=s.config:=e1;have e2:eu=s.config.epoch:=e2;obtain⟨su,oku⟩:=KD ok hv u1;have hle:=YW oku su.val;rw[e1] at hle;exact hn u u1 ⟨e1,by omega⟩
 ·have hla:Ej x.master=some (s.config,true,()):=by
   unfold Ej;rw[<-heq,sc];rfl
  obtain⟨z,hz,hq⟩:=hs _ Mp hla hMp;refine⟨z,hz,λt ht ⟨e1,e2⟩=> ?_⟩;have e1:t.config=s.config:=e1;have e2:t.epoch=s.config.epoch:=e2;rcases hq with ⟨q,q1,q2⟩|hq
  ·exact hpc (e1.symm.trans (new q q1 t (by rw[q2];exact ht)))
  ·have:=hq t ht;omega
theorem abz(a:List rk)(n:Int)(t:List rk)(ha:a.length<=maxLen):Ev (λy=>y.2.1=true-> ∃k:Nat,y.1=a++t.drop k/\0<=n/\k+n.toNat<=a.length/\(k+n.toNat=a.length\/k=t.length)) (Gd a n t):=by
 unfold Gd;refine .bd λ_ _=> .brn (λ_=> .bd λ_ _=> .brn (λ_=> .br (λ_=> .ret nofun) λ_=> .ip λh3=> .bd λy3 hy3=> .br (λ_=> .ret nofun) λhlt=> .bind (O5 a) λy4 h4=> .ip λ_=> .ip λ_=> .bd λy5 _=> .brn (λ_=> .ret λ_=> ?_) λ_=> .ret nofun) λ_=> .ret nofun) λ_=> .ret nofun;have h3:0<=n/\n<=(a.length:Int)/\(a.length:Int)<=(a.length:Int):=h3;obtain⟨k,k1,k2,k3,_⟩:=NS ((a.drop n.toNat).take ((a.length:Int).toNat-n.toNat)) t (by rw[cP,co];omega);obtain rfl:y3=((k:Int),()):=Option.some.inj ((show GO _ t=some y3 from hy3).symm.trans k1);rw[cP,co] at k2;have hlt:=of_decide_eq_false hlt;unfold maxLen at ha;rw[vN (n:=(a.length:Int)-n) (by omega) (by omega)] at hlt;dsimp only at hlt;refine⟨k,?_,h3.1,by omega,?_⟩
 ·show y4.1++(t.drop (k:Int).toNat).take ((t.length:Int).toNat-(k:Int).toNat)=_;rw[h4,DG,DG,bW (by rw[co];omega)]
 ·split at hlt<;>omega
section
variable {x:qg} {G:Int->List rk} {H:List rk} (ok:Ez 1048576 x) (hv:Ee x=some (true,())) (h:LQ x G H)
include ok hv h
theorem YE{k:Nat}{s:qj}(hs:x.servers[k]? =some s)(hr: (k:Int)∈s.config.replicas):Pf (KE s) H:=by
 have hc:s.config≠⟨0,0,[],[]⟩:=λe=>by rw[e] at hr;cases hr
 obtain⟨sv,oks⟩:=KD ok hv hs;obtain⟨n,vs⟩:=Qg oks sv.val hc;have hf:=vs.rep λh3=>aaG (Ei oks.1) vs.role h3 hr;obtain⟨⟨j1,j2,j3⟩,_⟩:=h.mem k s hs hc;intro i e hi;unfold KE at hi;split at hi
 ·rw[hf,Int.sub_zero] at hi;have hlt:=C8 hi;rw[cP] at hlt;rw[List.getElem?_take_of_lt (by omega)] at hi;obtain⟨e',e1,e2⟩:=j3 i (by omega);have:=j2 i e hi;rw[hf] at this;have this: (G s.config.epoch)[0+i]? =some e:=this;rw[aP,e1] at this;rw[<-this];exact e2
 ·simp at hi
theorem abu{k:Nat}{s:qj}(hs:x.servers[k]? =some s):Ev (λy=>Pf y.1 H) (HA s (k:Int)):=by
 obtain⟨sv,oks⟩:=KD ok hv hs;rw[(T0 s (k:Int) oks sv.val).1];refine .ret ?_;show Pf (data s (k:Int)) H;unfold data;split
 ·next hr=>
  split
  ·exact YE ok hv h hs hr
  ·exact h.lrn k s hs
 ·exact h.lrn k s hs
theorem X4{b:List rk}(hb:Pf b H){k:Nat}{w:qj}(hw:x.servers[k]? =some w)(hc:w.config≠⟨0,0,[],[]⟩)(he:w.config.epoch=x.master.activated):Ev (λy=>y.2.1=true->Pf H y.1/\Pf y.1 (G x.master.activated)) (Gd b w.first w.log):=by
 obtain⟨⟨j1,j2,j3⟩,_,j5⟩:=h.mem k w hw hc;rw[he] at j1 j2;have j5:=j5 he;have hl:=h.act.len;have hbl:=hb.len;obtain⟨sv,okw⟩:=KD ok hv hw;have hsm:=Gk okw sv.val
 have bl:b.length<=maxLen:=by unfold maxLen;omega
 refine (abz b w.first w.log bl).mono λy hy e=> ?_;obtain⟨n,y1,n1,n2,n3⟩:=hy e
 have n4:n+w.first.toNat=b.length:=by rcases n3 with n3|n3<;>omega
 have hG:Pf y.1 (G x.master.activated):=λi e hi=>by
  rw[y1] at hi;by_cases hib:i<b.length
  ·rw[aW hib] at hi;exact h.act _ _ (hb _ _ hi)
  ·rw[bc (by omega),bf] at hi;have:=j2 _ _ hi;rw[show w.first.toNat+(n+(i-b.length))=i by omega] at this;exact this
 refine⟨λi e hi=> ?_,hG⟩;have hiH:=C8 hi;have hly:y.1.length=b.length+(w.log.length-n):=by rw[y1,bJ,co]
 have hiy:i<y.1.length:=by omega
 rw[aq hiy];have h1:=hG i _ (aq hiy);rw[h.act i e hi] at h1;exact h1.symm
end
end
section
theorem VF(x:qg)(ok:Ez 1048576 x)(id e:Int):Ev (λy=>y.1.master=x.master/\y.1.servers.length=x.servers.length/\ ∀ (j:Nat) s,x.servers[j]? =some s-> ∃ep,y.1.servers[j]? =some (Ho s ep)/\s.epoch<=ep) (E0 x id e):=by
 have self:x.servers.length=x.servers.length/\ ∀ (j:Nat) s,x.servers[j]? =some s-> ∃ep,x.servers[j]? =some (Ho s ep)/\s.epoch<=ep:=⟨rfl,λj s hs=>⟨s.epoch,hs,cU _⟩⟩
 obtain⟨c,b,c1,c2,c3⟩:=TV x ok;unfold E0;rw[(EL x ok).1,ao,c1,ao];refine .bd λv hv=> .brn (λev=> .brn (λ_=> .bd λ_ _=> .brn (λ_=> .bd λM hM=> ?_) λ_=> .ret ⟨rfl,self⟩) λ_=> .ret ⟨rfl,self⟩) λ_=> .ret ⟨rfl,self⟩;have hvx:Ee x=some (true,()):=hv.trans (congrArg some (Prod.ext ev rfl));have vc:=Es ok hvx;obtain⟨M',m1,_,m3,m4,_⟩:=Hi c c2;obtain rfl:M=(M',()):=Option.some.inj ((show EO c=some M from hM).symm.trans m1);have mm:M'.length<=maxLen:=by unfold maxLen;omega
 refine .bind (.count (B:=Ff) (E:=λq=> ∃S:List qj,(S.length=x.servers.length/\ ∀ (j:Nat) s,x.servers[j]? =some s-> ∃ep,S[j]? =some (Ho s ep)/\s.epoch<=ep)/\q=(((),(),()),(fz,fc x,()),S,x.sides,x.master.configs,x.places,())) (λk (S:List qj)=>((id,e,(),(),(),(),(k:Int),()),(fx x,fz,fc x,()),M',S,x.sides,x.master.configs,x.places,())) (λk S=>k<=M'.length/\S.length=x.servers.length/\ ∀ (j:Nat) s,x.servers[j]? =some s-> ∃ep,S[j]? =some (Ho s ep)/\s.epoch<=ep) (λk S hJ=> ?_) (b:=x.servers) ⟨bM _,self⟩) ?_
 ·obtain⟨_,hS⟩:=hJ;refine .br (λh=> .ip λ_=> .bd λz hz=> .ip λ_=> .bd λs hs=> ?_) λ_=> .ret ⟨S,hS,rfl⟩;have hk:k<M'.length:=DI.1 (of_decide_eq_true h);have hz:M'[k]? =some z:=hz;have sw:=BI mm hk;refine .br (λ_=> .ip λ_=> .bd λz2 hz2=> .bd λ_ _=> .br (λ_=> .ip λ_=> .bd λz3 hz3=> .ip λ_=> .bd λz4 hz4=> .ip λ_=> .bd λt ht=> .bd λr hr=> .ip λ_=> .bd λu hu=> .ret ⟨S.set z3.toNat r.1,by rw[sw],hk,?_⟩) λ_=> .ret ⟨S,by rw[sw],hk,hS⟩) λ_=> .ret ⟨S,by rw[sw],hk,hS⟩;obtain rfl:z3=z:=Option.some.inj ((show M'[k]? =some z3 from hz3).symm.trans hz);obtain rfl:z4=z3:=Option.some.inj ((show M'[k]? =some z4 from hz4).symm.trans hz);have ht:x.servers[z4.toNat]? =some t:=ht;have hu:S[z4.toNat]? =some u:=hu;have hzr:=m4 z4 (aA hz);have okt:=ok.1.2 t (aA ht)
  have hre: ∃ep,r.1=Ho t ep/\t.epoch<=ep:=by have hr:Gh t e=some r:=hr;unfold Gh at hr;rw[(K4 t okt).1,ao,EM,ao,Ef] at hr;exact Nn hr (λ_ hr=>Nn hr (λ_ hr=>⟨t.epoch,by rw[<-Option.some.inj hr],cU _⟩) λh1 hr=>Nn hr (λ_ hr=>⟨t.epoch,by rw[<-Option.some.inj hr],cU _⟩) λ_ hr=>⟨e,by rw[<-Option.some.inj hr],by have:=of_decide_eq_false h1;omega⟩) λ_ hr=>⟨t.epoch,by rw[<-Option.some.inj hr],cU _⟩
  obtain⟨ep,r1,r2⟩:=hre;refine⟨by rw[DL];exact hS.1,λj s' hs'=> ?_⟩;by_cases hj:z4.toNat=j
  ·subst hj;obtain rfl:s'=t:=Option.some.inj (hs'.symm.trans ht);exact⟨ep,by rw[DK (C8 hu),r1],r2⟩
  ·rw[DN hj];exact hS.2 j s' hs'
 ·rintro _ ⟨S,hS,rfl⟩
  exact .ret ⟨rfl,hS⟩
theorem YV{x:qg}(ok:Ez 1048576 x){a:nF}{d:Bool}(hla:Ej x.master=some (a,d,()))(hr:a.replicas.length<=maxLen)(id:Int):Ev (λy=> ∀z∈y.1,z∈a.replicas/\Cd x a.epoch id z) (Fn x id):=by
 unfold Fn;rw[hla,ao];refine .bind (.count (B:=FS) (E:=λe=> ∀z∈e.2.2.1,z∈a.replicas/\Cd x a.epoch id z) (λk (b:List Int)=>((id,(),(),(),d,(k:Int),()),(fx x,(a.epoch,a.primary,(),(),()),()),(b,a.replicas,a.witnesses,()))) (λk b=>k<=a.replicas.length/\ ∀z∈b,z∈a.replicas/\Cd x a.epoch id z) (λk b hJ=> ?_) (b:=[]) ⟨bM _,nofun⟩) λe he=> .ret he;refine .br (λh=> .br (λ_=> .bd λ_ _=> .br (λ_=> .bd λ_ _=> .br (λ_=> .ip λ_=> .bd λz hz=> .ip λ_=> .bd λs hs=> ?_) λ_=> .ret hJ.2) λ_=> .ret hJ.2) λ_=> .ret hJ.2) λ_=> .ret hJ.2;have hk:k<a.replicas.length:=DI.1 (of_decide_eq_true h);have hz:a.replicas[k]? =some z:=hz;have hs:x.servers[z.toNat]? =some s:=hs;have sw:=BI hr hk;refine .br (λhu=> .br (λhe=> .ip λ_=> .bd λz2 hz2=> .bd λsd hsd=> .br (λhd=> .ip λ_=> .bd λz3 hz3=> .ip λ_=> .ret ⟨b++ [z3],by rw[sw],hk,λy hy=> ?_⟩) λhd=> .ret ⟨b,by rw[sw],hk,hJ.2⟩) λhe=> .ret ⟨b,by rw[sw],hk,hJ.2⟩) λhu=> .ret ⟨b,by rw[sw],hk,hJ.2⟩;rcases bC.1 hy with hy|hy
 ·exact hJ.2 y hy
 ·rw[aL.1 hy];obtain rfl:z3=z:=Option.some.inj ((show a.replicas[k]? =some z3 from hz3).symm.trans hz);obtain rfl:z2=z3:=Option.some.inj ((show a.replicas[k]? =some z2 from hz2).symm.trans hz);exact⟨aA hz,s,hs,hu,eq_of_beq he,(show ES x.sides id z2=some sd from hsd).trans (congrArg some (Prod.ext hd rfl))⟩
section
variable {x:qg} (P:List rk->Prop)
theorem aaX(id:Int){c:nF}{w:qj}(hP: ∀ (k:Nat) s b,x.servers[k]? =some s->HA s (k:Int)=some (b,())->Ev (λy=>y.2.1=true->P y.1) (Gd b w.first w.log))(j:Int)(d:Bool)(b:List rk×Bool)(hb:b.2=true->P b.1):Ev (λe=> ∃r:List rk×Bool,(r.2=true->P r.1)/\e=((id,(),(),r.2,(),d,j,()),(fx x,(c.epoch,c.primary,(),(),()),()),r.1,c.replicas,c.witnesses,())) (IL ((id,(),(),b.2,(),d,j,(),0,()),(fx x,(c.epoch,c.primary,(),(),()),XT w,()),b.1,c.replicas,c.witnesses,())):=by refine .count (B:=FG) (E:=λe=> ∃r:List rk×Bool,(r.2=true->P r.1)/\e=((id,(),(),r.2,(),d,j,()),(fx x,(c.epoch,c.primary,(),(),()),()),r.1,c.replicas,c.witnesses,())) (λk (b:List rk×Bool)=>((id,(),(),b.2,(),d,j,(),(k:Int),()),(fx x,(c.epoch,c.primary,(),(),()),XT w,()),b.1,c.replicas,c.witnesses,())) (λ_ b=>b.2=true->P b.1) (λk b hb=> ?_) (b:=b) hb;refine .br (λh=> .ip λ_=> .bd λt ht=> ?_) λ_=> .ret ⟨b,hb,rfl⟩;have hk:k<5:=DI.1 (of_decide_eq_true h);have sw:=BI (n:=5) (by decide) hk;dsimp only;rw[sw];exact .brn (λ_=> .bd λ_ _=> .brn (λ_=> .ip λ_=> .bd λu hu=> .bd λy hy=> .bind (hP k u y.1 hu hy) λz hz=> .br (λhz2=> .brn (λ_=> .br (λ_=> .ret ⟨(z.1,true),rfl,λ_=>hz hz2⟩) λ_=> .ret ⟨b,rfl,hb⟩) λ_=> .ret ⟨(z.1,true),rfl,λ_=>hz hz2⟩) λ_=> .ret ⟨b,rfl,hb⟩) λ_=> .ret ⟨b,rfl,hb⟩) λ_=> .ret ⟨b,rfl,hb⟩
theorem Y5(id:Int){c:nF}{d:Bool}(hla:Ej x.master=some (c,d,()))(hl:c.witnesses.length<=maxLen)(hP: ∀ (z:Int) w,z∈c.witnesses->x.servers[z.toNat]? =some w->w.up=true->w.config.epoch=c.epoch->ES x.sides id z=some (true,())->d=true-> ∀ (k:Nat) s b,x.servers[k]? =some s->HA s (k:Int)=some (b,())->Ev (λy=>y.2.1=true->P y.1) (Gd b w.first w.log)):Ev (λy=>y.2.1=true->P y.1) (Fo x id):=by
 unfold Fo;rw[hla,ao];refine .bind (.count (B:=Fv) (E:=λe=>e.1.2.1=true->P e.2.2.1) (λk (b:List rk×Bool)=>((id,(),(),b.2,(),d,(k:Int),()),(fx x,(c.epoch,c.primary,(),(),()),()),b.1,c.replicas,c.witnesses,())) (λk b=>b.2=true->P b.1) (λk b hb=> ?_) (b:=([],false)) nofun) λe he=> .ret he;refine .br (λh=> .br (λhd=> .bd λ_ _=> .br (λ_=> .bd λ_ _=> .br (λ_=> .ip λ_=> .bd λz hz=> .ip λ_=> .bd λw hw=> ?_) λ_=> .ret hb) λ_=> .ret hb) λ_=> .ret hb) λ_=> .ret hb;have hk:k<c.witnesses.length:=DI.1 (of_decide_eq_true h);have hz:c.witnesses[k]? =some z:=hz;have sw:=BI hl hk;dsimp only;rw[sw];refine .brn (λhu=> .brn (λhe=> .ip λ_=> .bd λz2 hz2=> .bd λsd hsd=> .brn (λhs=> .bind (aaX P id (c:=c) (hP z w (aA hz) hw hu (eq_of_beq he) ?_ hd) k d b hb) ?_) λ_=> .ret ⟨b,rfl,hb⟩) λ_=> .ret ⟨b,rfl,hb⟩) λ_=> .ret ⟨b,rfl,hb⟩
 ·obtain rfl:z2=z:=Option.some.inj ((show c.witnesses[k]? =some z2 from hz2).symm.trans hz);exact (show ES x.sides id z2=some sd from hsd).trans (congrArg some (Prod.ext hs rfl))
 ·rintro _ ⟨r,hr,rfl⟩
  exact .ret ⟨r,by rw[<-sw],hr⟩
end
def Frm(x:qg)(id:Int):Prop:=∀o Mo,Ej x.master=some (o,true,())->EO o=some (Mo,())-> ∃z∈Mo,∃s,x.servers[z.toNat]? =some s/\s.up=true/\s.config.epoch=o.epoch/\ES x.sides id z=some (true,())
section
variable {x:qg} {G:Int->List rk} {H:List rk} (ok:Ez 1048576 x) (hv:Ee x=some (true,())) (h:LQ x G H)
include ok hv h
theorem VI(id:Int):Ev (λy=>y.2.1=true->Pf H y.1/\Pf y.1 (G x.master.activated)/\Frm x id) (Fo x id):=by
 obtain⟨c,d,d1,_,d3,d4,d5,d6⟩:=Hs x ok hv;refine Y5 (λl=>Pf H l/\Pf l (G x.master.activated)/\Frm x id) id d1 d3.2 λz w hz hw hu he hs hd k s b hs1 hs2=> ?_;obtain⟨cv,ce⟩:=d5 hd;have hc:w.config≠⟨0,0,[],[]⟩:=Pr (by have:=(Fm d3 cv).2.2.2.1;omega);refine (X4 ok hv h ((abu ok hv h hs1) _ hs2) hw hc (he.trans ce)).mono λy hy e=>⟨(hy e).1,(hy e).2,λo Mo ho hM=> ?_⟩
 rw[d1] at ho;simp only[af,au,and_true] at ho;obtain⟨rfl,_⟩:=ho;obtain⟨M',m1,_,_,_,_,m6⟩:=Hi c d3;obtain rfl:M'=Mo:=(Prod.mk.inj (Option.some.inj (m1.symm.trans hM))).1;exact⟨z,(m6 cv z).2 (.inr hz),w,hw,hu,he,hs⟩
theorem SM(id:Int):Ev (λy=>y.2.1=true->Pf H y.1/\Pf y.1 (G x.master.activated)/\Frm x id) (Fy x id):=by
 obtain⟨c,d,d1,_,d3,d4,d5,d6⟩:=Hs x ok hv;unfold Fy;refine .bd λ_ _=> .brn (λ_=> .bd λwd hwd=> .brn (λew=> .br (λh0=> .ret λ_=>⟨?_,.nil _,λo Mo ho=> ?_⟩) λh0=> .bd λn hn=> .br (λhge=> .ip λ_=> .bd λs hs=> .bind (O5 _) λy hy=> .ret λ_=> ?_) λ_=> .bind (VI ok hv h id) λy hy=> .ret hy) λ_=> .ret nofun) λ_=> .ret nofun
 ·rw[h.non (eq_of_beq h0)];exact .nil _
 ·have h0:x.master.activated=0:=eq_of_beq h0;rw[d1] at ho;simp only[af,au,and_true] at ho;have:=of_decide_eq_true (d4.symm.trans ho.2);omega
 ·have hge:0<=n.1:=of_decide_eq_true hge;have h0: ¬x.master.activated=0:=ne_of_beq_false h0
  have hw:GG id 0 4=true:=by have hwd:Em id 0 4=some wd:=hwd;rw[EM] at hwd;have:=Option.some.inj hwd;rw[<-this] at ew;exact ew
  have hw:=Eg.1 hw;obtain⟨S,s1,_,s3,s4⟩:=PL ok ok hv hv (.refl x) (id:=id) (by omega);have hn:FK x id=some n:=hn;have hb:=(XN x ok hv s1 s3 s4).is hn;have hnS:n.1∈S:=hb.2 λe=>by have:=hb.1 e;omega
  obtain⟨q1,t,q2,q3,q4,q5⟩:=(YV ok d1 d3.1 id) _ s1 n.1 hnS;have hs:x.servers[n.1.toNat]? =some s:=hs;obtain rfl:t=s:=Option.some.inj (q2.symm.trans hs);obtain⟨f2,f3⟩:=(I2 (Fh ok.2.2.1) (Es ok hv).ml).2;have hd:d=true:=by rw[d4];exact decide_eq_true (by omega)
  obtain⟨cv,ce⟩:=d5 hd;have hc:t.config≠⟨0,0,[],[]⟩:=Pr (by have:=(Fm d3 cv).2.2.2.1;omega);have htc:t.config=c:=ZU ok hv (by rw[d1,hd]) hs q4;obtain⟨⟨j1,j2,j3⟩,_,j5⟩:=h.mem _ t hs hc;have he:t.config.epoch=x.master.activated:=q4.trans ce;obtain⟨sv,okt⟩:=KD ok hv hs;obtain⟨r,vs⟩:=Qg okt sv.val hc;have hf:=vs.rep λh3=>aaG (Ei okt.1) vs.role h3 (by rw[htc,DT hge];exact q1);rw[he,hf] at j2
  have hG:Pf t.log (G x.master.activated):=λi e hi=>by have:=j2 i e hi;rw[show (0:Int).toNat+i=i from aP i] at this;exact this
  have hy:y.1=t.log:=hy;rw[hy];refine⟨λi e hi=> ?_,hG,λo Mo ho hM=> ?_⟩
  ·have:=j5 he;have:=C8 hi;have hil:i<t.log.length:=by omega
   rw[aq hil];have h1:=hG i _ (aq hil);rw[h.act i e hi] at h1;exact h1.symm
  ·rw[d1] at ho;simp only[af,au,and_true] at ho;obtain⟨rfl,_⟩:=ho;obtain⟨M',m1,_,_,_,_,m6⟩:=Hi c d3;obtain rfl:M'=Mo:=(Prod.mk.inj (Option.some.inj (m1.symm.trans hM))).1;exact⟨n.1,(m6 cv _).2 (.inl q1),t,hs,q3,q4,q5⟩
end
theorem W9(x:qg)(ok:Ez 1048576 x):Ev (λy=>y.2.1=0\/y.1=x\/ ∃id e,E0 x id e=some (y.1,())) (Ga x):=by
 obtain⟨c,b,c1,_⟩:=TZ x ok (x.master.configs.length:Int);unfold Ga Ge;rw[(EL x ok).1,ao,c1,ao,ao];refine .bd λv hv=> .brn (λ_=> .brn (λ_=> .br (λ_=> .ret (.inr (.inl rfl))) λ_=> .br (λ_=> .ret (.inr (.inl rfl))) λ_=> .ip λ_=> .bd λs hs=> .brn (λ_=> .ip λ_=> .bd λ_ _=> .brn (λ_=> .bd λ_ _=> .brn (λ_=> .bd λw hw=> .bd λl hl=> .brn (λ_=> .bd λm hm=> ?_) λ_=> .ret (.inr (.inr ⟨_,_,hw⟩))) λ_=> .ret (.inr (.inl rfl))) λ_=> .ret (.inr (.inl rfl))) λ_=> .ret (.inr (.inl rfl))) λ_=> .ret (.inr (.inl rfl))) λ_=> .ret (.inr (.inl rfl));refine .bind (.loop (B:=GI) (E:=Sum.elim (λe=> ∃n:Int,e=(((),(),n,(),(),(),(),()),(fx x,fc w.1,(fc w.1,(c.epoch,c.primary,(),(),()),())),l.1,m.1,w.1.servers,w.1.sides,w.1.master.configs,w.1.places,c.replicas,c.witnesses,())) λe=>e.2=((fx x,fz,fc w.1,(c.epoch,c.primary,(),(),()),()),l.1,m.1,w.1.servers,w.1.sides,w.1.master.configs,w.1.places,c.replicas,c.witnesses,())) (λs=>s.2=((fx x,fz,fc w.1,(c.epoch,c.primary,(),(),()),()),l.1,m.1,w.1.servers,w.1.sides,w.1.master.configs,w.1.places,c.replicas,c.witnesses,())) (λs hs=> ?_) rfl) λe he=> ?_
 ·obtain⟨a,b⟩:=s;obtain rfl:b=_:=hs;exact .br (λ_=> .ip λ_=> .bd λ_ _=> .ip λ_=> .bd λ_ _=> .brn (λ_=> .ip λ_=> .bd λ_ _=> .ip λ_=> .bd λ_ _=> .brn (λ_=> .ret rfl) λ_=> .ret ⟨_,rfl⟩) λ_=> .ret ⟨_,rfl⟩) λ_=> .ret rfl
 cases e with
 |inl e=>obtain⟨n,rfl⟩:=he;exact .ret (.inr (.inr ⟨_,_,hw⟩))
 |inr e=>
  show Ev _ ((IW (((),(),(),(),(),(),0,()),e.2)).bind _);rw[show e.2=_ from he];refine .bind (.loop (B:=FF) (E:=Sum.elim (λe=> ∃n:Int,e=(((),(),n,(),(),(),(),()),(fx x,fc w.1,(fc w.1,(c.epoch,c.primary,(),(),()),())),l.1,m.1,w.1.servers,w.1.sides,w.1.master.configs,w.1.places,c.replicas,c.witnesses,())) λe=>e.2=((fx x,fz,fc w.1,(c.epoch,c.primary,(),(),()),()),l.1,m.1,w.1.servers,w.1.sides,w.1.master.configs,w.1.places,c.replicas,c.witnesses,())) (λs=>s.2=((fx x,fz,fc w.1,(c.epoch,c.primary,(),(),()),()),l.1,m.1,w.1.servers,w.1.sides,w.1.master.configs,w.1.places,c.replicas,c.witnesses,())) (λs hs=> ?_) rfl) λe he=> ?_
  ·obtain⟨a,b⟩:=s;obtain rfl:b=_:=hs;exact .br (λ_=> .ip λ_=> .bd λ_ _=> .ip λ_=> .bd λ_ _=> .br (λ_=> .bd λ_ _=> .br (λ_=> .ret ⟨_,rfl⟩) λ_=> .ret rfl) λ_=> .ret rfl) λ_=> .ret rfl
  cases e with
  |inl e=>obtain⟨n,rfl⟩:=he;exact .ret (.inr (.inr ⟨_,_,hw⟩))
  |inr e=>exact .bd λ_ _=> .bd λ_ _=> .ret (.inl rfl)
structure Rg (x:qg):Prop where
 ok:Ez 1048576 x
 valid:Ee x=some (true,())
 old:VJ x
 hist: ∃G H,LQ x G H
theorem Rg.kw{x y:qg}(h:Rg x)(k:Kw x y)(ok:Ez 1048576 y)(hv:Ee y=some (true,())):Rg y:=by obtain⟨G,H,hh⟩:=h.hist;exact⟨ok,hv,h.old.kw h.ok h.valid k,G,H,hh.kw k⟩
theorem W8.kw{x y:qg}(hm:y.master=x.master)(hl:y.servers.length=x.servers.length)(h: ∀ (j:Nat) s,x.servers[j]? =some s-> ∃ep,y.servers[j]? =some (Ho s ep)/\s.epoch<=ep):Kw x y:=
 ⟨by rw[hm],λk t ht=>by have hlt:=C8 ht;rw[hl] at hlt;obtain⟨ep,e1,e2⟩:=h k _ (aq hlt);obtain rfl:=Option.some.inj (e1.symm.trans ht);exact⟨_,aq hlt,.inl ⟨rfl,e2,rfl,rfl,rfl,rfl⟩⟩⟩
theorem Qh{x:qg}(h:Rg x):Ev (λy=>Rg y.1) (Ga x):=by
 intro y hy;have hok:=((OU x h.ok).is hy).1;by_cases h0:y.2.1=0
 ·obtain⟨hv,c,M,l,a⟩:=TF x h.ok y hy h0;obtain⟨G,H,hh⟩:=h.hist;obtain⟨s1,s2,s3⟩:=SM h.ok hv hh c.primary _ a.source rfl;obtain⟨c3,cv,ce,ca,hm,hat,m4,m6⟩:=a.cfg h.ok hv
  have hl:l.length<=maxLen:=by obtain⟨_,_,l',b',_,_,_,_,_,_,g,_,_,_,_,g2,_⟩:=SN x h.ok c.primary;rw[a.source] at g;simp only[af,au,and_true] at g;rw[g.1];unfold maxLen;omega
  obtain⟨w,w1,w2⟩:=a.sealed;obtain⟨w3,w4,w5⟩:=VF x h.ok _ _ _ w1;refine⟨hok,XK h.ok hv hok hl a.toAct0,h.old.install h.ok hv a (λk s hs hno=> ?_) λo Mo ho hM=> ?_,_,_,hh.install h.ok hv a s1 (s2.dst (hh.dst _))⟩
  ·obtain⟨ep,e1,e2⟩:=w5 k s hs;exact⟨ep,w2 k _ e1 hno,e2⟩
  ·obtain⟨z,hz,s,z1,z2,z3,z4⟩:=s3 o Mo ho hM;refine⟨z,hz,?_⟩;by_cases hq: ∃q∈M,q.toNat=z.toNat
   ·exact .inl hq
   ·refine .inr λt ht=> ?_;obtain⟨ep,e1,e2⟩:=w5 _ s z1;have e3:=w2 _ _ e1 λq hq1 hq2=>hq ⟨q,hq1,hq2⟩;obtain rfl:=Option.some.inj (e3.symm.trans ht);obtain⟨o',d',d1,_,d3,_⟩:=Hs x h.ok hv;rw[ho] at d1;simp only[af,au,and_true] at d1;obtain⟨rfl,rfl⟩:=d1;obtain⟨M',m1,_,m3',m4',_⟩:=Hi o d3;obtain rfl:M'=Mo:=(Prod.mk.inj (Option.some.inj (m1.symm.trans hM))).1;have hc1:=(Fm c3 cv).2.2.2.1;exact (abj x h.ok hv ho d3 ⟨hc1,by omega⟩ hM m4' m3').is w1 z hz s z1 z2 z4 _ e1
 ·rcases W9 x h.ok y hy with h1|h1| ⟨id,e,h1⟩
  ·exact absurd h1 h0
  ·rw[h1];exact h
  ·obtain⟨w,w1,_,w3,w4⟩:=aaH x h.ok id e;rw[h1] at w1;obtain rfl:y.1=w:=(Prod.mk.inj (Option.some.inj w1)).1;obtain⟨g1,g2,g3⟩:=VF x h.ok id e _ h1;exact h.kw (W8.kw g1 g2 g3) hok (w4 h.valid).1
end
section
theorem abw(l:List rk)(c q:Int)(hl:l.length<=maxLen):Ev (λy=>0<=y.1\/ ∀e∈l,¬ (e.op.client=c/\e.op.seq=q)) (Lh l c q):=by
 unfold Lh;refine .bind (.count (B:=JJ) (E:=Sum.elim (λe=>0<=e.1.1) λ_=> ∀e∈l,¬ (e.op.client=c/\e.op.seq=q)) (λk (_:Unit)=>((l,c,q,(k:Int),()),(),())) (λk _=>k<=l.length/\ ∀ (j:Nat) e,j<k->l[j]? =some e-> ¬ (e.op.client=c/\e.op.seq=q)) (λk _ hJ=> ?_) (b:=()) ⟨bM _,λj e h=>absurd h (DV j)⟩) λe he=> ?_
 ·refine .br (λh=> .ip λ_=> .bd λe he=> ?_) λh=> .ret λe he=> ?_
  ·have hk:k<l.length:=DI.1 (of_decide_eq_true h);have he:l[k]? =some e:=he;have sw:=BI hl hk
   have next: ¬ (e.op.client=c/\e.op.seq=q)->k+1<=l.length/\ ∀ (j:Nat) e,j<k+1->l[j]? =some e-> ¬ (e.op.client=c/\e.op.seq=q):=λhn=>⟨hk,λj f hj hf=>by
    by_cases hjk:j=k
    ·subst hjk;rw[he] at hf;exact Option.some.inj hf ▸ hn
    ·exact hJ.2 j f (by omega) hf⟩
   refine .br (λ_=> .ip λ_=> .bd λf hf=> .br (λ_=> .ret (DH k)) λh2=> .ret ⟨(),by rw[sw],next λhn=> ?_⟩) λh1=> .ret ⟨(),by rw[sw],next λhn=>absurd hn.1 (ne_of_beq_false h1)⟩;obtain rfl:f=e:=Option.some.inj ((show l[k]? =some f from hf).symm.trans he);exact ne_of_beq_false h2 hn.2
  ·have : ¬ ((k:Int)< (l.length:Int)):=of_decide_eq_false h;obtain⟨j,hj,rfl⟩:=aU he;exact hJ.2 j _ (by omega) (aq hj)
 ·cases e with
  |inl e=>exact .ret (.inl he)
  |inr e=>exact .ret (.inr he)
end
section
theorem X3(l:uL):Tt (λy=>y.1=true->l=⟨0,0,0⟩\/((1<=l.epoch/\l.epoch<=20)/\(0<=l.holder/\l.holder<=4)/\1<=l.ends/\l.ends<=1049)) (FR l):=by unfold FR;simp only[EM,ao];refine .br (λh=> .ret λ_=> .inl ?_) λ_=> .br (λh1=> .br (λh2=> .ret λh3=> .inr ⟨Eg.1 h1,Eg.1 h2,Eg.1 h3⟩) λ_=> .ret nofun) λ_=> .ret nofun;simp only[de,ak,beq_iff_eq] at h;obtain⟨e,h,n⟩:=l;simp only at h;obtain⟨rfl,rfl,rfl⟩:=h;rfl
def Gr(l:uL)(e h n:Int)(g:uL):Prop:=g.epoch=e/\g.holder=h/\(1<=e/\e<=20)/\(0<=h/\h<=4)/\(0<=n/\n<=999)/\n<g.ends/\g.ends<=1049/\(l.epoch=e->l.holder=h->l.ends<=g.ends)
theorem aaS(l:uL)(e h n t:Int):Tt (λy=>y.2.1=true->Gr l e h n y.1) (Iw l e h n t):=by
 obtain⟨⟨b,_⟩,b1,b2⟩:=X3 l;obtain⟨o,o1,_⟩:=MY l n;have no:Tt (λy:uL×Bool×Unit=>y.2.1=true->Gr l e h n y.1) (some (l,false,())):=.ret nofun;unfold Iw;simp only[b1,o1,EM,ao,Ef];cases b with
 |false=>exact .br (λ_=>no) λ_=>no
 |true=>
  simp only[CJ];have hl:=b2 rfl;cases h1:GG e 1 20<;>cases h2:GG h 0 4<;>cases h3:GG n 0 999<;>cases h4:GG t 1 50<;>simp only[CJ,BK]<;>first |exact .br (λ_=>no) λ_=>no|skip
  have h1:=Eg.1 h1;have h2:=Eg.1 h2;have h3:=Eg.1 h3;have h4:=Eg.1 h4;rw[vN (n:=n+t) (by omega) (by omega)]
  have mine:l.epoch=e->Tt (λy:uL×Bool×Unit=>y.2.1=true->Gr l e h n y.1) (some (⟨e,h,if l.ends>n+t then l.ends else n+t⟩,true,())):=λhe=> .ret λ_=>by
   have hr:1<=l.ends/\l.ends<=1049:=by
    rcases hl with rfl|hl
    ·simp only at he;omega
    ·exact hl.2.2
   show Gr l e h n ⟨e,h,if l.ends>n+t then l.ends else n+t⟩;split
   ·exact⟨rfl,rfl,h1,h2,h3,by show n<l.ends;omega,hr.2,λ_ _=>cU _⟩
   ·exact⟨rfl,rfl,h1,h2,h3,by show n<n+t;omega,by show n+t<=1049;omega,λ_ _=>by show l.ends<=n+t;omega⟩
  have other: (l.epoch=e->l.holder=h->False)->Tt (λy:uL×Bool×Unit=>y.2.1=true->Gr l e h n y.1) (some (⟨e,h,n+t⟩,true,())):=λhn=> .ret λ_=>⟨rfl,rfl,h1,h2,h3,by show n<n+t;omega,by show n+t<=1049;omega,λa b=>(hn a b).elim⟩
  refine .br (λhe=> ?_) λhe=> ?_
  ·have he:l.epoch=e:=eq_of_beq he;refine .br (λ_=> .br (λ_=>mine he) λhh=>other λ_ a=>ne_of_beq_false hh a) λ_=> .br (λ_=> .br (λ_=>mine he) λhh=>other λ_ a=>ne_of_beq_false hh a) λ_=>no
  ·have he:l.epoch≠e:=ne_of_beq_false he;exact .br (λ_=>other λa _=>he a) λ_=>no
theorem Gr.ok{l g:uL}{e h n:Int}(hg:Gr l e h n g):GS g=some (true,())/\GJ g n=some (false,())/\PQ g e h n=some (decide (n+3<g.ends),()):=by
 obtain⟨rfl,rfl,h1,h2,h3,h4,h5,_⟩:=hg;have hz: (g.ends==0)=false:=beq_eq_false_iff_ne.2 (by omega)
 have il:GS g=some (true,()):=by unfold GS;simp only[hz,Ed,Bool.and_false,BK,Jo,Eg.2 h1,Eg.2 h2,Eg.2 (show 1<=g.ends/\g.ends<=1049 by omega),ao,CJ]
 refine⟨il,?_,?_⟩
 ·unfold GJ KG;simp only[il,Jo,Eg.2 h3,ao,CJ,Ef,hz,Ed,Bool.and_false,BK,G4,C1];rw[vN (n:=g.ends+3) (by omega) (by omega)];simp only[show ¬g.ends=0 by omega,if_false,ao,decide_eq_false (show ¬n≥g.ends+3 by omega)]
 ·unfold PQ;simp only[il,Jo,Eg.2 h3,ao,CJ,Ef,hz,Ed,Bool.and_false,BK,G4,if_true];rw[vN (n:=n+3) (by omega) (by omega)]
section
variable [dE]
end
end
section
theorem Gr.lease{l g:uL}{e h n:Int}(hg:Gr l e h n g):FR g=some (true,()):=by obtain⟨rfl,rfl,h1,h2,h3,h4,h5,_⟩:=hg;have hz: (g.epoch==0)=false:=beq_eq_false_iff_ne.2 (by omega);unfold FR;rw[hz,Ed,BK,EM,Eg.2 h1,ao];show br true ((Em g.holder 0 4).bind _) _=_;rw[CJ,EM,Eg.2 h2,ao];show br true ((Em g.ends 1 1049).bind _) _=_;rw[CJ,EM,Eg.2 (show 1<=g.ends/\g.ends<=1049 by omega)];rfl
theorem abh(x:qg)(ok:Ez 1048576 x)(id t:Int):Ev (λy=>y.2.1=0-> ∃L,y.1=⟨x.now,x.servers,x.sides,x.master,x.masterUp,L,x.places⟩/\FR L=some (true,())/\L.epoch<=x.master.activated) (Gg x id t):=by obtain⟨n,n1,n2⟩:=SJ x ok id;unfold Gg;rw[(EL x ok).1,ao,n1,ao];refine .brn (λen=> ?_) λhn=> .ret λh=>absurd h (ne_of_beq_false hn);obtain⟨hv,h0,h5⟩:=n2 (eq_of_beq en);have vc:=Es ok hv;obtain⟨_,f2,_⟩:=I2 (Fh ok.2.2.1) vc.ml;refine .ip λ_=> .bd λs hs=> .bd λ_ _=> .brn (λ_=> .br (λ_=> .ret nofun) λ_=> .ip λ_=> .bd λ_ _=> .brn (λ_=> .brn (λ_=> .bd λy6 h6=> .brn (λe6=> .ret λ_=>⟨_,rfl,?_⟩) λ_=> .ret nofun) λ_=> .ret nofun) λ_=> .ret nofun) λ_=> .ret nofun;have hg:=(aaS x.lease s.config.epoch id x.now t).is h6 e6;have hlt:=C8 hs;have sv:=LP ok hv _ hlt;have hs':=hs;rw[aq hlt] at hs';rw[Option.some.inj hs'] at sv;exact⟨hg.lease,by rw[hg.1];exact sv.old2 f2⟩
end
section
theorem Rg.set{x:qg}(h:Rg x){k:Nat}{s t:qj}(hs:x.servers[k]? =some s)(okt:EA 1048576 t)(sv:SV x.master t (k:Int))(hk: (t.config=s.config/\s.epoch<=t.epoch/\t.first=s.first/\t.log=s.log/\t.commit=s.commit/\t.learned=s.learned)\/(t.config=⟨0,0,[],[]⟩/\t.learned= [])):Rg (GH x (x.servers.set k t)):=by
 have hlt:=C8 hs
 obtain⟨ok,hv⟩:=QI h.ok h.valid (x.servers.set k t) DL (λu hu=>(cX hu).elim (h.ok.1.2 u) λe=>e ▸ okt) λj hj=>by
  rw[Ec];split
  ·next e=>subst e;exact sv
  ·exact LP h.ok h.valid j (by rw[DL] at hj;exact hj)
 refine h.kw ⟨rfl,λj u hu=> ?_⟩ ok hv;have hu: (x.servers.set k t)[j]? =some u:=hu;by_cases e:k=j
 ·subst e;rw[DK hlt] at hu;obtain rfl:=Option.some.inj hu;exact⟨s,hs,hk⟩
 ·rw[DN e] at hu;exact⟨u,hu,.inl ⟨rfl,cU _,rfl,rfl,rfl,rfl⟩⟩
theorem Rg.rest{x:qg}(h:Rg x)(n u:Int)(sd:List Int)(L:uL)(hn:0<=n/\n<=999)(hu:0<=u/\u<=3)(hsl:sd.length<=1048576)(hsd:Fu sd=some (true,()))(hL:FR L=some (true,()))(he:L.epoch<=x.master.activated):Rg ⟨n,x.servers,sd,x.master,u,L,x.places⟩:=by
 have vc:=Es h.ok h.valid;have ok:Ez 1048576 (⟨n,x.servers,sd,x.master,u,L,x.places⟩:qg):=⟨h.ok.1,hsl,h.ok.2.2⟩
 exact h.kw ⟨rfl,λk t ht=>⟨t,ht,.inl ⟨rfl,cU _,rfl,rfl,rfl,rfl⟩⟩⟩ ok (RF ok hn vc.len hsd vc.ml hu hL vc.places he (show ∀k (hk:k<x.servers.length),SV x.master x.servers[k] (k:Int) from LP h.ok h.valid))
theorem UA{x:qg}(hv:Ee x=some (true,()))(ok:Ez 1048576 x):x.lease.epoch<=x.master.activated:=by obtain⟨b1,a1,_⟩:=Le x.sides (Ep ok.2.1);obtain⟨b2,m1,_⟩:=masterLog x.master (Fh ok.2.2.1);obtain⟨b3,l1,_⟩:=MW x.lease;obtain⟨b4,p1,_⟩:=KF x.places (Ep ok.2.2.2);unfold Ee at hv;simp only[EM,a1,m1,l1,p1,ao] at hv;refine Classical.byContradiction λhn=> ?_;have hd:decide (x.lease.epoch>x.master.activated)=true:=decide_eq_true (by omega);revert hv;simp only[hd];cases GG x.now 0 999<;>cases ((x.servers.length:Int)==5)<;>cases b1<;>cases b2<;>cases GG x.masterUp 0 3<;>cases b3<;>cases b4<;>intro hv<;>cases hv
theorem aaI{m:jY}{s:qj}{k:Int}(h:SV m s k){v:Int}(hv:1<=v/\v<=2):SV m ⟨s.up,s.intact,v,s.epoch,s.config,s.first,s.log,s.commit,s.learned⟩ k:=by refine⟨?_,h.ep,h.lrn,h.cfg⟩;have hs:=h.val;unfold Eh at hs ⊢;rw[EM,ao] at hs ⊢;rw[Eg.2 hv];rw[Eg.2 (SO h.val)] at hs;exact hs
theorem abF{m:jY}{s:qj}{k:Int}(oks:EA 1048576 s)(h:SV m s k)(h0:0<=m.activated){l:List rk}(hl:ET l=some (true,()))(hm:l.length<=maxLen)(ha: ∀e∈l,e.epoch<=m.activated):SV m ⟨s.up,s.intact,s.version,s.epoch,s.config,s.first,s.log,s.commit,l⟩ k:=by obtain⟨e,e1,_⟩:=GU l hm;refine⟨?_,h.ep,⟨e,e1,Vj h0 ha _ e1⟩,h.cfg⟩;have hs:=h.val;have f7:=(Gk oks h.val).2.2.2.2.2.2.1;unfold Eh at hs ⊢;rw[f7] at hs;rw[hl];exact hs
theorem Y3{m:jY}(ok:NY 1048576 m)(hm:Er m=some (true,())){up:Bool}{v:Int}{k:Int}(hv:1<=v/\v<=2):SV m ⟨up,false,v,0,⟨0,0,[],[]⟩,0,[],0,[]⟩ k/\SV m ⟨up,true,v,0,⟨0,0,[],[]⟩,0,[],0,[]⟩ k:=by
 obtain⟨_,f2,_⟩:=I2 (Fh ok) hm
 have hl: ∃e,Hh [] =some (e,())/\e<=m.activated:=by obtain⟨e,e1,_⟩:=GU [] (bM _);exact⟨e,e1,Vj f2 (λ_ h=>by cases h) _ e1⟩
 have val: ∀i:Bool,Eh ⟨up,i,v,0,⟨0,0,[],[]⟩,0,[],0,[]⟩ k=some (true,()):=λi=>by unfold Eh;simp only[EM,Eg.2 hv,OX,I1 (⟨0,0,[],[]⟩:nF) ⟨bM _,bM _⟩,ao];rfl
 exact⟨⟨val _,by show (0:Int)<=_;omega,hl,.inl rfl⟩,⟨val _,by show (0:Int)<=_;omega,hl,.inl rfl⟩⟩
theorem aaP{x:qg}(h:Rg x)(id:Int):Ev (λy=>Rg y.1) (HQ x id):=by unfold HQ;rw[(EL x h.ok).1,ao];refine .bd λ_ _=> .brn (λ_=> .ip λ_=> .bd λs hs=> .brn (λ_=> .ip λ_=> .bd λt ht=> .ret ?_) λ_=> .ret h) λ_=> .ret h;obtain⟨⟨a1,a2,a3,a4⟩,okt⟩:=KD h.ok h.valid ht;exact h.set ht (show EA 1048576 (upS t false) from okt) ⟨a1,a2,a3,a4⟩ (.inl ⟨rfl,cU _,rfl,rfl,rfl,rfl⟩)
theorem YM{x:qg}(h:Rg x)(id:Int):Ev (λy=>Rg y.1) (G0 x id):=by unfold G0;rw[(EL x h.ok).1,ao];refine .bd λ_ _=> .brn (λ_=> .ip λ_=> .bd λs hs=> .br (λ_=> .ret h) λ_=> .ip λ_=> .bd λt ht=> .ret ?_) λ_=> .ret h;obtain⟨⟨a1,a2,a3,a4⟩,okt⟩:=KD h.ok h.valid ht;exact h.set ht (show EA 1048576 (upS t true) from okt) ⟨a1,a2,a3,a4⟩ (.inl ⟨rfl,cU _,rfl,rfl,rfl,rfl⟩)
theorem abD{x:qg}(h:Rg x)(id:Int):Ev (λy=>Rg y.1) (JM x id):=by unfold JM;rw[(EL x h.ok).1,ao];refine .bd λ_ _=> .brn (λ_=> .ip λ_=> .bd λs hs=> .bd λw hw=> .ip λ_=> .bd λt ht=> .ret ?_) λ_=> .ret h;have hs:x.servers[id.toNat]? =some s:=hs;have hw:some ((⟨s.up,false,s.version,0,⟨0,0,[],[]⟩,0,[],0,[]⟩:qj),())=some w:=hw;obtain rfl:=Option.some.inj hw;obtain⟨sv,oks⟩:=KD h.ok h.valid hs;exact h.set hs ⟨⟨bM _,bM _⟩,bM _,bM _⟩ (Y3 h.ok.2.2.1 (Es h.ok h.valid).ml (SO sv.val)).1 (.inr ⟨rfl,rfl⟩)
theorem Y0{x:qg}(h:Rg x)(id:Int):Ev (λy=>Rg y.1) (G2 x id):=by unfold G2;rw[(EL x h.ok).1,ao];refine .bd λ_ _=> .brn (λ_=> .ip λ_=> .bd λs hs=> .br (λ_=> .ret h) λ_=> .ip λ_=> .bd λ_ _=> .brn (λ_=> .ip λ_=> .bd λt ht=> .ret ?_) λ_=> .ret h) λ_=> .ret h;obtain⟨sv,okt⟩:=KD h.ok h.valid ht;exact h.set ht (show EA 1048576 (⟨t.up,t.intact,2,t.epoch,t.config,t.first,t.log,t.commit,t.learned⟩:qj) from okt) (aaI sv (by decide)) (.inl ⟨rfl,cU _,rfl,rfl,rfl,rfl⟩)
theorem YA{x:qg}(h:Rg x)(n:Int):Ev (λy=>Rg y.1) (Iz x n):=by have vc:=Es h.ok h.valid;unfold Iz;rw[(EL x h.ok).1,ao];refine .bd λ_ _=> .brn (λ_=> ?_) λ_=> .ret h;rw[EM,ao];exact .brn (λhw=> .ret (h.rest x.now n x.sides x.lease vc.now (Eg.1 hw) h.ok.2.1 vc.sides vc.lease (UA h.valid h.ok))) λ_=> .ret h
theorem aaD{x:qg}(h:Rg x)(n:Int):Ev (λy=>Rg y.1) (I9 x n):=by have vc:=Es h.ok h.valid;have hn:=vc.now;unfold I9;rw[(EL x h.ok).1,ao];refine .bd λ_ _=> .brn (λ_=> ?_) λ_=> .ret h;rw[EM,ao,vN (n:=999-x.now) (by omega) (by omega)];refine .brn (λhw=> .ret ?_) λ_=> .ret h;have hw:=Eg.1 hw;rw[vN (n:=x.now+n) (by omega) (by omega)];exact h.rest (x.now+n) x.masterUp x.sides x.lease (by omega) vc.up h.ok.2.1 vc.sides vc.lease (UA h.valid h.ok)
theorem YK{x:qg}(h:Rg x)(id t:Int):Ev (λy=>Rg y.1) (Gg x id t):=by
 have vc:=Es h.ok h.valid;intro y hy;by_cases h0:y.2.1=0
 ·obtain⟨L,e1,e2,e3⟩:=abh x h.ok id t y hy h0;rw[e1];exact h.rest x.now x.masterUp x.sides L vc.now vc.up h.ok.2.1 vc.sides e2 e3
 ·have same:Ev (λy:qg×Int×Unit=>y.2.1≠0->y.1=x) (Gg x id t):=by
   unfold Gg;rw[(EL x h.ok).1,ao];exact .bd λ_ _=> .brn (λ_=> .ip λ_=> .bd λ_ _=> .bd λ_ _=> .brn (λ_=> .br (λ_=> .ret λ_=>rfl) λ_=> .ip λ_=> .bd λ_ _=> .brn (λ_=> .brn (λ_=> .bd λ_ _=> .brn (λ_=> .ret λh=>absurd rfl h) λ_=> .ret λ_=>rfl) λ_=> .ret λ_=>rfl) λ_=> .ret λ_=>rfl) λ_=> .ret λ_=>rfl) λ_=> .ret λ_=>rfl
  rw[same y hy h0];exact h
theorem Sq{x:qg}(h:Rg x){n:nF}(hn:FX 1048576 n):Ev (λy=>Rg y.1) (F4 x n):=by
 have vc:=Es h.ok h.valid;intro y hy;have oky:=((O0 x h.ok n hn).is hy).1;rcases YI x h.ok n y hy with e| ⟨_,e1,e2,e3⟩
 ·rw[e];exact h
 ·rw[e3] at oky ⊢;obtain⟨f1,f2,f3⟩:=I2 (Fh h.ok.2.2.1) vc.ml;have hml:=TP h.ok.2.2.1 vc.ml;have hcn:=(Fm (Ei hn) e1).2.2.2.2.1
  have hm:Er ⟨x.master.configs++ [n],x.master.activated⟩=some (true,()):=aa6 (Fh oky.2.2.1).1 (λk hk=>by
   have hk:k< (x.master.configs++ [n]).length:=hk;rw[bJ,cy] at hk;show Ek ((x.master.configs++ [n])[k])=_/\((x.master.configs++ [n])[k]).epoch=_;by_cases hk2:k<x.master.configs.length
   ·rw[List.getElem_append_left hk2];exact f1 k hk2
   ·rw[List.getElem_append_right (by omega),List.getElem_singleton];exact⟨e1,by omega⟩) ⟨f2,by show x.master.activated<=(((x.master.configs++ [n]).length:Nat):Int);rw[bJ,cy];omega⟩
  refine h.kw ⟨rfl,λk t ht=>⟨t,ht,.inl ⟨rfl,cU _,rfl,rfl,rfl,rfl⟩⟩⟩ oky (RF oky vc.now vc.len vc.sides hm vc.up vc.lease vc.places (show x.lease.epoch<=x.master.activated from UA h.valid h.ok) (show ∀k (hk:k<x.servers.length),SV ⟨x.master.configs++ [n],x.master.activated⟩ x.servers[k] (k:Int) fromλk hk=> ?_));obtain⟨a1,a2,a3,a4⟩:=LP h.ok h.valid k hk;refine⟨a1,by show _<=(((x.master.configs++ [n]).length:Nat):Int);rw[bJ,cy];omega,a3,a4.imp id λ⟨b1,b2⟩=>⟨?_,b2⟩⟩;obtain⟨c',b',q1,_,_,q4,_⟩:=H6 x.master x.servers[k].config.epoch h.ok.2.2.1 vc.ml;rw[b1] at q1;have q1:=Option.some.inj q1;have hb:b'=true:=(Prod.mk.inj (Prod.mk.inj q1).2).1.symm;rw[hb] at q4;rw[Xe x.master.configs n x.master.activated _ (by omega) vc.ml hm (Eg.1 q4.symm)];exact b1
theorem VJ.same{x y:qg}(h:VJ x)(hA:y.master.activated=x.master.activated)(k: ∀ (k:Nat) t,y.servers[k]? =some t-> ∃s,x.servers[k]? =some s/\t.config=s.config/\t.epoch=s.epoch):VJ y:=by intro j p hp hc he M hM;obtain⟨s,s1,s2,_⟩:=k j p hp;rw[s2] at hc he hM ⊢;rw[hA] at he;obtain⟨m,hm,hn⟩:=h j s s1 hc he M hM;refine⟨m,hm,λt ht hh=> ?_⟩;obtain⟨u,u1,u2,u3⟩:=k _ t ht;rw[u2,u3] at hh;exact hn u u1 hh
theorem abL{x y:qg}(h:Rg x){id m:Int}(hp:Pu x y id m):Rg y:=by obtain⟨ok,hv⟩:=XA h.ok hp;obtain⟨G,H,hh⟩:=h.hist;exact⟨ok,hv,h.old.push h.ok hp,G,H,hh.push h.ok hp⟩
theorem LQ.learn{x:qg}{G:Int->List rk}{H:List rk}(h:LQ x G H){k:Nat}{s:qj}(hs:x.servers[k]? =some s){l:List rk}(hl:Pf l H):LQ (GH x (x.servers.set k ⟨s.up,s.intact,s.version,s.epoch,s.config,s.first,s.log,s.commit,l⟩)) G H:=by
 have all: ∀ (j:Nat) t,(x.servers.set k (⟨s.up,s.intact,s.version,s.epoch,s.config,s.first,s.log,s.commit,l⟩:qj))[j]? =some t-> ∃u,x.servers[j]? =some u/\t.config=u.config/\t.first=u.first/\t.log=u.log/\t.commit=u.commit/\Pf t.learned H:=λj t ht=>by
  by_cases e:k=j
  ·subst e;rw[DK (C8 hs)] at ht;obtain rfl:=Option.some.inj ht;exact⟨s,hs,rfl,rfl,rfl,rfl,hl⟩
  ·rw[DN e] at ht;exact⟨t,ht,rfl,rfl,rfl,rfl,h.lrn j t ht⟩
 refine⟨λj t ht hc=> ?_,h.dst,λj t ht=> ?_,h.act,h.non⟩
 ·obtain⟨u,u1,u2,u3,u4,u5,_⟩:=all j t ht;obtain⟨⟨a1,a2,a3⟩,b,c⟩:=h.mem j u u1 (u2 ▸ hc);rw[u2];exact⟨⟨by rw[u3,u4];exact a1,by rw[u3,u4];exact a2,by rw[u5];exact a3⟩,λe=>by rw[u4];exact b e,λe=>by rw[u3,u4];exact c e⟩
 ·obtain⟨u,_,_,_,_,_,u6⟩:=all j t ht;exact u6
theorem abP{c:nF}{y n:Int}(h:FX maxLen c)(hn:EP c y=some (n,()))(h3:n=1\/n=2):y∈c.replicas:=by obtain⟨v,v1,_⟩:=GP c h;unfold EP at hn;simp only[v1,(EG c.replicas y h.1).1,(EG c.witnesses y h.2).1,ao,Ef] at hn;have no: ∀ {P:Prop} {k:Int},¬ (k=1\/k=2)->some (k,())=some (n,())->P:=λhk e=>absurd h3 ((Prod.mk.inj (Option.some.inj e)).1 ▸ hk);refine Nn hn (λhv hn=>Nn hn (λhe _=> ?_) λ_ hn=>Nn hn (λh _=>of_decide_eq_true h) λ_ hn=>Nn hn (λ_=>no (by decide)) λ_=>no (by decide)) λ_=>no (by decide);subst hv;rw[eq_of_beq he];exact (Fm h v1).2.2.1
theorem Rg.learn{x:qg}(h:Rg x){k:Nat}{s:qj}(hs:x.servers[k]? =some s){l:List rk}(hl: ∀G H,LQ x G H->Pf l H)(hg:ET l=some (true,()))(hm:l.length<=1048576)(ha: ∀e∈l,e.epoch<=x.master.activated):Rg (GH x (x.servers.set k ⟨s.up,s.intact,s.version,s.epoch,s.config,s.first,s.log,s.commit,l⟩)):=by
 have hlt:=C8 hs;obtain⟨_,f2,_⟩:=I2 (Fh h.ok.2.2.1) (Es h.ok h.valid).ml;obtain⟨sv,oks⟩:=KD h.ok h.valid hs;have okt:EA 1048576 ⟨s.up,s.intact,s.version,s.epoch,s.config,s.first,s.log,s.commit,l⟩:=⟨oks.1,oks.2.1,hm⟩
 obtain⟨ok,hv⟩:=QI h.ok h.valid (x.servers.set k ⟨s.up,s.intact,s.version,s.epoch,s.config,s.first,s.log,s.commit,l⟩) DL (λu hu=>(cX hu).elim (h.ok.1.2 u) λe=>e ▸ okt) λj hj=>by
  rw[Ec];split
  ·next e=>subst e;exact abF oks sv f2 hg (Ep hm) ha
  ·exact LP h.ok h.valid j (by rw[DL] at hj;exact hj)
 obtain⟨G,H,hh⟩:=h.hist;refine⟨ok,hv,h.old.same rfl λj t ht=> ?_,G,H,hh.learn hs (hl G H hh)⟩;have ht: (x.servers.set k (⟨s.up,s.intact,s.version,s.epoch,s.config,s.first,s.log,s.commit,l⟩:qj))[j]? =some t:=ht;by_cases e:k=j
 ·subst e;rw[DK hlt] at ht;obtain rfl:=Option.some.inj ht;exact⟨s,hs,rfl,rfl⟩
 ·rw[DN e] at ht;exact⟨t,ht,rfl,rfl⟩
theorem aaM{x:qg}(h:Rg x)(a b n:Int):Ev (λy=>Rg y.1) (HP x a b n):=by
 have vc:=Es h.ok h.valid
 have left:Ev (λy=>0<=y.1-> ∃s,x.servers[a.toNat]? =some s/\a∈s.config.replicas/\0<=a) (HO x a b):=by
  unfold HO;refine .bind (Q:=λv=>v.1=true-> ∃s,x.servers[a.toNat]? =some s/\a∈s.config.replicas/\0<=a) ?_ λv hv=> .brn (λe=> .ip λ_=> .bd λ_ _=> .bd λ_ _=> .ip λ_=> .bd λ_ _=> .ip λ_=> .bd λ_ _=> .bd λ_ _=> .bd λ_ _=> .brn (λ_=> .ret λ_=>hv e) λ_=> .ret λ_=>hv e) λ_=> .ret λh=>absurd h (by decide);unfold J0;refine .bd λ_ _=> .brn (λ_=> .bd λ_ _=> .brn (λ_=> .br (λ_=> .ret nofun) λ_=> .ip λh0=> .bd λs hs=> .bd λr hr=> .br (λ_=> .ip λ_=> .bd λ_ _=> .br (λ_=> ?_) λ_=> .ret nofun) λ_=> .ret nofun) λ_=> .ret nofun) λ_=> .ret nofun;have hs:x.servers[a.toNat]? =some s:=hs;have hr:EP s.config a=some (r.1,()):=hr;have okc:=Ei (KD h.ok h.valid hs).2.1;have good: ∀d:Bool,r.1=1\/r.1=2->Ev (λv:Bool×Unit=>v.1=true-> ∃s,x.servers[a.toNat]? =some s/\a∈s.config.replicas/\0<=a) (some (d,())):=λd hd=> .ret λ_=>⟨s,hs,abP okc hr hd,h0⟩
  exact .br (λe1=> .br (λ_=> .bd λm _=>good _ (.inl (eq_of_beq e1))) λ_=> .ret nofun) λ_=> .br (λe2=> .br (λ_=> .bd λm _=>good _ (.inr (eq_of_beq e2))) λ_=> .ret nofun) λ_=> .ret nofun
 unfold HP;rw[(EL x h.ok).1,ao];refine .bind left λy hy=> .br (λ_=> .ret h) λhneg=> .bd λ_ _=> .brn (λ_=> .ip λ_=> .bd λs hs=> .bd λl hl=> .ip λ_=> .ip λ_=> .bind (O5 _) λq hq=> .ip λ_=> .bd λu hu=> .ret ?_) λ_=> .ret h;have hneg: ¬y.1<0:=of_decide_eq_false hneg;obtain⟨s',s1,s2,s3⟩:=hy (by omega);obtain rfl:s'=s:=Option.some.inj (s1.symm.trans hs);obtain⟨sv,oks⟩:=KD h.ok h.valid s1;have hl:EB s'=some l:=hl;rw[(Qi s' a oks (by have:=sv.val;rw[DT s3] at this;exact this)).1] at hl;obtain rfl:=Option.some.inj hl;obtain⟨_,_,f3,_,_,f6,_⟩:=Gk oks sv.val
 have hm: (KE s').length<=16/\ET (KE s')=some (true,()):=by
  unfold KE;split
  ·exact⟨by rw[cP];omega,RM (by unfold maxLen;omega) f6 _⟩
  ·exact⟨bM _,OX⟩
 obtain⟨m,hq2⟩: ∃m,q.1=(KE s').take m:=⟨_,by rw[hq];rfl⟩
 have hx:Rg (GH x (x.servers.set b.toNat ⟨u.up,u.intact,u.version,u.epoch,u.config,u.first,u.log,u.commit,q.1⟩)):=by
  have hlen:q.1.length<=16:=by rw[hq2,cP];omega
  refine h.learn (show x.servers[b.toNat]? =some u from hu) (λG H hh i e hi=> ?_) (by rw[hq2];exact RM (by unfold maxLen;omega) hm.2 _) (by omega) λe he=> ?_
  ·rw[hq2] at hi;have hpf:=YE h.ok h.valid hh s1 (by rw[DT s3];exact s2);have hlt:=C8 hi;rw[cP] at hlt;rw[List.getElem?_take_of_lt (by omega)] at hi;exact hpf i e hi
  ·rw[hq2] at he;have he:=bS he;refine VP h.ok h.valid s1 e (.inr ?_);unfold KE at he;split at he
   ·exact bS he
   ·cases he
 exact hx
theorem VS{x:qg}(h:Rg x)(id:Int):Ev (λy=>Rg y.1) (Gb x id):=by
 unfold Gb;rw[(EL x h.ok).1,ao];refine .bd λ_ _=> .brn (λ_=> .ip λ_=> .bd λ_ _=> .br (λ_=> .ret h) λ_=> .ip λ_=> .bd λ_ _=> .brn (λ_=> .ip λ_=> .bd λs hs=> .bd λ_ _=> .br (λ_=> .ret h) λ_=> .bind (.loop (B:=GM) (E:=Sum.elim (λe=> ∃n:Int,e=((id,(),n,(),()),(fc x,fc x,()),x.servers,x.sides,x.master.configs,x.places,())) λe=>e=((id,(),(),(),()),(fz,fc x,()),x.servers,x.sides,x.master.configs,x.places,())) (λs=>s.1.1=id/\s.2.1.1=fx x/\s.2.1.2.1=fz/\s.2.1.2.2.1=fc x/\s.2.2=(x.servers,x.sides,x.master.configs,x.places,())) (λt ht=> ?_) ⟨rfl,rfl,rfl,rfl,rfl⟩) λe he=> ?_) λ_=> .ret h) λ_=> .ret h
 ·obtain⟨⟨a1,a2⟩,⟨b1,b2,b3,b4⟩,c⟩:=t;obtain⟨i1,i2,i3,i4,i5⟩:=ht;obtain rfl:a1=id:=i1;obtain rfl:b1=fx x:=i2;obtain rfl:b2=fz:=i3;obtain rfl:b3=fc x:=i4;obtain rfl:c=_:=i5;exact .br (λ_=> .bd λ_ _=> .brn (λ_=> .ret rfl) λ_=> .ip λ_=> .bd λ_ _=> .bd λ_ _=> .br (λ_=> .ip λ_=> .bd λ_ _=> .bd λ_ _=> .br (λ_=> .ret ⟨_,rfl⟩) λ_=> .ret ⟨rfl,rfl,rfl,rfl,rfl⟩) λ_=> .ret ⟨rfl,rfl,rfl,rfl,rfl⟩) λ_=> .ret rfl
 ·cases e with
  |inl e=>obtain⟨n,rfl⟩:=he;exact .ret h
  |inr e=>obtain rfl:=he;refine .ip λ_=> .bd λt ht=> .ret ?_;obtain⟨sv,okt⟩:=KD h.ok h.valid ht;exact h.set ht (show EA 1048576 (⟨t.up,t.intact,1,t.epoch,t.config,t.first,t.log,t.commit,t.learned⟩:qj) from okt) (aaI sv (by decide)) (.inl ⟨rfl,cU _,rfl,rfl,rfl,rfl⟩)
theorem W4(l:List Int)(h5:l.length=5)(h: ∀z∈l,0<=z/\z<=3):Tt (λy=>y.1=true) (Fu l):=by
 unfold Fu;refine .bind (.count (B:=HD) (E:=Sum.elim (λ_=>False) λe=>e=((l,(),()),(),())) l.length (λk (_:Unit)=>((l,(k:Int),()),(),())) (λ_ _=>True) (λ_ _=> .end (DM _) (.ret rfl)) (λk _ hk _=> ?_) () trivial) λe he=> ?_
 ·refine .go (DI.2 hk) (.ip (DH k) (.get (tn hk) λz _ hz=> ?_));rw[EM,Eg.2 (h z hz),ao];exact .ret ⟨(),by rw[BI (by rw[h5];decide) hk],trivial⟩
 ·cases e with
  |inl e=>exact he.elim
  |inr e=>obtain rfl:=he;exact .ret (by show ((l.length:Int)==5)=true;rw[h5];rfl)
theorem ZJ{l:List Int}(hl:l.length<=maxLen)(hv:Fu l=some (true,())): ∀z∈l,0<=z/\z<=3:=by
 have fA:Ev (λy=>y.1=true-> ∀z∈l,0<=z/\z<=3) (Fu l):=by
  unfold Fu;refine .bind (.count (B:=HD) (E:=Sum.elim (λe=>e.1.2.1=false) λ_=> ∀z∈l,0<=z/\z<=3) (λk (_:Unit)=>((l,(k:Int),()),(),())) (λk _=>k<=l.length/\ ∀ (j:Nat) z,j<k->l[j]? =some z->0<=z/\z<=3) (λk _ hJ=> ?_) (b:=()) ⟨bM _,λj z h=>absurd h (DV j)⟩) λe he=> ?_
  ·refine .br (λh=> .ip λ_=> .bd λz hz=> ?_) λh=> .ret λz hz=> ?_
   ·have hk:k<l.length:=DI.1 (of_decide_eq_true h);have hz:l[k]? =some z:=hz;rw[EM,ao];refine .brn (λhw=> .ret ⟨(),by rw[BI hl hk],hk,λj z' hj hz'=> ?_⟩) λ_=> .ret rfl;by_cases hjk:j=k
    ·subst hjk;obtain rfl:=Option.some.inj (hz.symm.trans hz');exact Eg.1 hw
    ·exact hJ.2 j z' (by omega) hz'
   ·have : ¬ ((k:Int)< (l.length:Int)):=of_decide_eq_false h;obtain⟨j,hj,rfl⟩:=aU hz;exact hJ.2 j _ (by omega) (aq hj)
  ·cases e with
   |inl e=>exact .ret λh=>by rw[show e.1.2.1=false from he] at h;cases h
   |inr e=>exact .ret λ_=>he
 exact fA _ hv rfl
theorem abG{x:qg}(h:Rg x)(a b:Int):Ev (λy=>Rg y.1) (Ix x a b):=by
 have vc:=Es h.ok h.valid;have h5:=IP (Ep h.ok.2.1) vc.sides;have hu:=ZJ (Ep h.ok.2.1) vc.sides
 have hm:Ev (λy=>Fu y.1=some (true,())/\y.1.length=5) (JN x.sides a b):=by
  unfold JN;rw[bF];refine .ip λ_=> .bd λ_ _=> .brn (λ_=> .bd λ_ _=> .brn (λ_=> ?_) λ_=> .ret ⟨vc.sides,h5⟩) λ_=> .ret ⟨vc.sides,h5⟩;rw[EM,ao];refine .brn (λhw=> .ip λ_=> .bd λ_ _=> .ret ?_) λ_=> .ret ⟨vc.sides,h5⟩;have hl: (x.sides.set a.toNat b).length=5:=by rw[DL,h5]
  obtain⟨v,v1,v2⟩:=W4 (x.sides.set a.toNat b) hl λz hz=>(cX hz).elim (hu z) λe=>e ▸ Eg.1 hw;exact⟨v1.trans (congrArg some (Prod.ext v2 rfl)),hl⟩
 unfold Ix;rw[(EL x h.ok).1,ao];exact .bind hm λy hy=> .bd λ_ _=> .brn (λ_=> .brn (λ_=> .ret (h.rest x.now x.masterUp y.1 x.lease vc.now vc.up (by rw[hy.2];decide) hy.1 vc.lease (UA h.valid h.ok))) λ_=> .ret h) λ_=> .ret h
end
end Go.Proofs.YtkghndikalnipacGreat.En
