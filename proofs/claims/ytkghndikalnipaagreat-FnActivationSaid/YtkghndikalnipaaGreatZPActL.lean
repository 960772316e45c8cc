/- Plain laws. -/
import Derived.Test.YtkghndikalnipaaGreatZPEv
set_option linter.unusedSimpArgs false
set_option linter.unusedVariables false
namespace Go.Proofs.YtkghndikalnipaaGreat.En
open Go
section
theorem tn{k n:Nat}(h:k<n): (k:Int).toNat<n:=h
theorem XL(m:nX)(ho:m.objects.length<=1000)(hs:m.sessions.length<=1000):Tt (λy=>y.1=true->m.objects.length=3) (Ig m):=by
 have mo:m.objects.length<=maxLen:=by unfold maxLen;omega
 have ms:m.sessions.length<=maxLen:=by unfold maxLen;omega
 unfold Ig;refine .bind (.count (B:=Jr) (E:=Sum.elim (λy=>y.1.2=(false,())) λy=>y.2.1=((m.objects,m.sessions,()),())) m.objects.length (λk (_:Unit)=>(((),(k:Int),()),((m.objects,m.sessions,()),()),())) (λ_ _=>True) (λ_ _=> .end (EI _) (.ret rfl)) (λk _ hk _=> .go (EH.2 hk) (.ip (EG k) (.get (tn hk) λx _ _=> ?_))) () trivial) λy hy=> ?_
 ·rw[FZ,ak,Fg];exact .br (λ_=> .ret ⟨(),by rw[kT mo hk],trivial⟩) λ_=> .ret rfl
 cases y with
 |inl y=>exact .ret (by rw[show y.1.2=_ from hy];nofun)
 |inr y=>
  show Tt _ ((N5 (((),0,()),y.2.1,())).bind _);rw[show y.2.1=_ from hy];refine .bind (.count (B:=Js) (E:=Sum.elim (λy=>y.1.2=(false,())) λy=>y.2.1=((m.objects,m.sessions,()),())) m.sessions.length (λk (_:Unit)=>(((),(k:Int),()),((m.objects,m.sessions,()),()),())) (λ_ _=>True) (λ_ _=> .end (EI _) (.ret rfl)) (λk _ hk _=> .go (EH.2 hk) (.ip (EG k) (.get (tn hk) λx _ _=> ?_))) () trivial) λy hy=> ?_
  ·simp only[FZ,ak,Fg]
   have hw: (k:Int)>0->IntKind.wrap .i64 ((k:Int)-1)=(k:Int)-1:=λh=>by unfold maxLen at ms;exact of (by omega) (by omega)
   refine .br (λ_=> .br (λ_=> .br (λ_=> .br (λh=> ?_) λ_=> .ret ⟨(),by rw[kT ms hk],trivial⟩) λ_=> .ret rfl) λ_=> .ret rfl) λ_=> .ret rfl;have h:=of_decide_eq_true h;rw[hw h];exact .ip (by omega) (.get (by omega) λ_ _ _=> .br (λ_=> .ret rfl) λ_=> .ret ⟨(),by rw[kT ms hk],trivial⟩)
  cases y with
  |inl y=>exact .ret (by rw[show y.1.2=_ from hy];nofun)
  |inr y=>show Tt _ (some (((y.2.1.1.1.length:Int)==3),()));rw[show y.2.1=_ from hy];exact .ret λh=>by have : (m.objects.length:Int)=3:=eq_of_beq h;omega
theorem abl(m:nX)(c:Int)(hs:m.sessions.length<=1000):Tt (λy=>y.2.1=true-> ∃x∈m.sessions,x.client=c) (MV m c):=by
 have ms:m.sessions.length<=maxLen:=by unfold maxLen;omega
 unfold MV;refine .bind (.count (B:=ME) (E:=Sum.elim (λy=> ∃x∈m.sessions,x.client=c) λ_=>True) m.sessions.length (λk (_:Unit)=>((c,(),(),(k:Int),()),((m.objects,m.sessions,()),(0,0,false,0,()),()),())) (λ_ _=>True) (λ_ _=> .end (EI _) (.ret trivial)) (λk _ hk _=> .go (EH.2 hk) (.ip (EG k) (.get (tn hk) λx _ hx=> .br (λe=> .ip (EG k) (.get (tn hk) λ_ _ _=> .ret ⟨x,hx,eq_of_beq e⟩)) λ_=> .ret ⟨(),by rw[kT ms hk],trivial⟩))) () trivial) λy hy=> ?_;cases y with
 |inl y=>exact .ret λ_=>hy
 |inr y=>exact .ret nofun
theorem XY(m:nX)(o:Op)(ho:m.objects.length<=1000)(hs:m.sessions.length<=900):Tt (λy=>y.1.sessions.length<=m.sessions.length+1/\y.1.objects.length=m.objects.length) (Md m o):=by
 obtain⟨⟨b,_⟩,v1,v2⟩:=XL m ho (by omega);unfold Md
 have cp:Qi m=some (m,()):=by unfold Qi;simp only[bK];rw[jo (by omega),jo (by omega)]
 rw[cp,ak,v1,ak,Fg,PR];refine .br (λe=> ?_) λ_=> .ret ⟨cM _,rfl⟩;have h3:=v2 e;rw[ak,Fg];refine .br (λeo=> .bind (abl m o.client (by omega)) λy hy=> ?_) λ_=> .ret ⟨cM _,rfl⟩;have hob:=Zl (show F2 o=some (true,()) by rw[PR];rw[show opB o=true from eo]);have hle:=ab6 m.sessions o.client;have hlt:y.2.1=true->RC m.sessions o.client<m.sessions.length:=λh=>ab7 (hy h);have hw:IntKind.wrap .i64 (((RC m.sessions o.client:Nat):Int)+1)=((RC m.sessions o.client:Nat):Int)+1:=of (by omega) (by omega);generalize hp:RC m.sessions o.client=p at hle hlt hw
 have ln: ∀ (k:Nat) (z:nY),k<=m.sessions.length+1->p<=k->(m.sessions.take p++ [z] ++(m.sessions.drop k).take (m.sessions.length-k)).length=p+1+(m.sessions.length-k):=λk z h1 h2=>by simp only[be,ci,bR,cn];omega
 have g0:0<=(p:Int):=EG p;have g1: (p:Int)<=(m.sessions.length:Int):=Int.ofNat_le.2 hle;have g3:0<=(p:Int)+1:=by omega
 have g2:y.2.1=true->(p:Int)+1<=(m.sessions.length:Int):=λh=>by have:=hlt h;omega
 have l1: (m.sessions.take p).length<=900:=by rw[ci];omega
 extract_lets+lift j44 j45
 have h44:Tt (λy=>y.1.sessions.length<=m.sessions.length+1/\y.1.objects.length=m.objects.length) j44:=by
  unfold j44;refine .ip hob.1 (.get (by show o.object.toNat<_;omega) λx _ _=> .br (λ_=> .ip (by show 0<=o.object/\o.object< (m.objects.length:Int);omega) (.get (by show o.object.toNat<m.objects.length;omega) λ_ _ _=> ?_)) λ_=> .br (λ_=> .ip (by show 0<=o.object/\o.object< (m.objects.length:Int);omega) (.get (by show o.object.toNat<m.objects.length;omega) λ_ _ _=> ?_)) λ_=> ?_)
  all_goals
   show Tt _ ((NE (((),(),(),(),y.2.1,(),0,()),((o.client,o.seq,o.kind,o.object,o.old,o.value,()),((),(),()),(false,0,()),((),(),()),(_,_,()),()),_,m.sessions,())).bind _);rw[aeh _ _ _ _ _ _ (by omega),hp,ak];simp only[hw,bK,aM,cF,cO,show (0:Int).toNat=0 from rfl,EW,show ((p:Int)+1).toNat=p+1 from rfl];refine .ip ⟨g0,g1,c9 _⟩ (.br (λe=> ?_) λ_=> ?_)
   ·have:=hlt e;refine .ip ⟨g3,g2 e,c9 _⟩ (.ip ⟨c9 _,g0,g1⟩ (.ip hle (.ip (by omega) (.ip (by rw[be,cn];omega) (.ip (by omega) (.ip (by rw[ln _ _ (by omega) (by omega)];omega) (.ret ⟨?_,by first |rfl|exact EL⟩)))))));show List.length _<=_;rw[ln _ _ (by omega) (by omega)];omega
   ·refine .ip ⟨c9 _,g0,g1⟩ (.ip hle (.ip (by omega) (.ip (by rw[be,cn];omega) (.ip (by omega) (.ip (by rw[ln _ _ (by omega) (by omega)];omega) (.ret ⟨?_,by first |rfl|exact EL⟩))))));show List.length _<=_;rw[ln _ _ (by omega) (by omega)];omega
 have h45:Tt (λy=>y.1.sessions.length<=m.sessions.length+1/\y.1.objects.length=m.objects.length) j45:=.br (λ_=> .br (λ_=> .ret ⟨cM _,rfl⟩) λ_=>h44) λ_=>h44;exact .br (λ_=> .br (λ_=> .ret ⟨cM _,rfl⟩) λ_=>h45) λ_=>h45
theorem W4(l:List sf)(hl:l.length<=maxLen):Tt (λy=>y.1.objects.length<=3/\y.1.sessions.length<=16) (Ka l):=by obtain⟨b,b1,b2⟩:=Qj hl;unfold Ka Nx;rw[ak,b1,ak,Fg];refine .br (λe=> ?_) λ_=> .ret ⟨bH _,bH _⟩;have h16:=b2 e;refine .bind (.count (B:=MC) (E:=λy=>y.2.2.1.length<=3/\y.2.2.2.1.length<=16) l.length (λk (b:List Int×List nY)=>((l,(),(),(k:Int),()),(((),(),()),((),(),()),()),b.1,b.2,())) (λk b=>b.1.length<=3/\b.2.length<=k) (λb hb=> .end (EI _) (.ret ⟨hb.1,ba hb.2 h16⟩)) (λk b hk hb=> .go (EH.2 hk) (.ip (EG k) (.get (tn hk) λx _ _=> .bind (XY ⟨b.1,b.2⟩ x.op (ba hb.1 (by omega)) (ba hb.2 (by omega))) λy hy=> .ret ⟨(y.1.objects,y.1.sessions),by rw[kT hl hk],by rw[hy.2];exact hb.1,ba hy.1 (Nat.succ_le_succ hb.2)⟩))) ([0,0,0],[]) ⟨az _,az _⟩) λy hy=> .ret hy
theorem Zn(l:List sf)(i:Int)(hl:l.length<=maxLen):Tt T1 (Mg l i):=by obtain⟨b,b1,b2⟩:=Qj hl;unfold Mg;rw[b1,ak,Fg];refine .br (λe=> ?_) λ_=> .ret trivial;have h16:=b2 e;rw[of (n:=(l.length:Int)-1) (by omega) (by omega),FZ,ak,Fg];refine .br (λh=> ?_) λ_=> .ret trivial;have h:=Fj.1 h;refine .ip (by omega) (.bind (W4 _ ?_) λy hy=> .ip h.1 (.get (by omega) λx _ _=> .bind (XY _ _ (by omega) (by omega)) λz _=> .ret trivial));refine ba ?_ hl;rw[ci,bR];omega
theorem Ru(s:qQ)(h:FN 1048576 s)(hf:0<=s.first/\s.first<=16/\s.log.length<=16):Tt (λy=>y.1.length<=16) (FM s):=by
 unfold FM;rw[of (n:=s.first+(s.log.length:Int)) (by omega) (by omega)];simp only[FZ,ak,Fg];refine .br (λh1=> ?_) λ_=> .ret (bH _);have h1:=Fj.1 h1;refine .br (λ_=> .ret (bH _)) λ_=> ?_;rw[of (n:=s.commit-s.first) (by omega) (by omega)]
 have hlen: ((s.log.drop (0:Int).toNat).take ((s.commit-s.first).toNat-(0:Int).toNat)).length<=16:=by rw[ci,bR];omega
 refine .ip (by omega) ?_;rw[RN (by omega)];exact .ret hlen
theorem adZ(m:nX)(i:Int)(ho:m.objects.length<=1000)(hs:m.sessions.length<=1000):Tt T1 (LF m i):=by obtain⟨⟨b,_⟩,b1,b2⟩:=XL m ho hs;unfold LF;rw[b1,ak,Fg];refine .br (λe=> ?_) λ_=> .ret trivial;have h3:=b2 e;rw[FZ,ak,Fg];refine .br (λh=> ?_) λ_=> .ret trivial;have h:=Fj.1 h;exact .ip h.1 (.get (by omega) λ_ _ _=> .ret trivial)
theorem W6{s:qQ}{id:Int}(h:FN 1048576 s)(hv:Fi s id=some (true,())):0<=s.first/\s.first<=16/\s.log.length<=16:=by obtain⟨h1,h2,h3,_⟩:=L4 h hv;exact⟨h1,h2,h3⟩
theorem adA(s:qQ)(i:Int)(h:FN 1048576 s)(hf:0<=s.first/\s.first<=16/\s.log.length<=16):Tt T1 (NX s i):=by unfold NX;exact .bind (Ru s h hf) λy hy=> .bind (W4 _ (by unfold maxLen;omega)) λz hz=> .bind (adZ _ _ (by omega) (by omega)) λ_ _=> .ret trivial
theorem ado(l:vz)(a b c:Int):Tt T1 (Lz l a b c):=by obtain⟨v,v1,_⟩:=PH l;unfold Lz;rw[v1,ak,FZ,ak];exact .br (λ_=> .br (λ_=> .br (λ_=> .br (λ_=> .br (λ_=> .ret trivial) λ_=> .ret trivial) λ_=> .ret trivial) λ_=> .ret trivial) λ_=> .ret trivial) λ_=> .ret trivial
theorem Z9(x:qN)(ok:FF 1048576 x)(id:Int):Tt T1 (Jd x id):=by obtain⟨b,b1,_,b2⟩:=Q1 x ok id;unfold Jd;rw[b1,ak];refine .br (λe=> ?_) λ_=> .ret trivial;obtain⟨hv,h0,h5,_⟩:=b2 e;exact .srv ok (FJ ok hv) ⟨h0,h5⟩ λs _ _ _=> .bind (ado _ _ _ _) λ_ _=> .ret trivial
theorem Yu(x:qN)(ok:FF 1048576 x)(id i:Int):Tt T1 (MS x id i):=by obtain⟨n,n1,n2⟩:=XT x ok id;unfold MS;rw[n1,ak,Fg];refine .br (λe=> ?_) λ_=> .ret trivial;obtain⟨hv,h0,h5⟩:=n2 (eq_of_beq e);have vc:=FJ ok hv;rw[FZ,ak,Fg];refine .br (λ_=> .srv ok vc ⟨h0,h5⟩ λs _ s2 _=> ?_) λ_=> .ret trivial;obtain⟨b,b1,_⟩:=My s id s2;rw[b1,ak,Fg];refine .br (λ_=> .bind (Z9 x ok id) λy _=> ?_) λ_=> .ret trivial;rw[Fg];exact .br (λ_=> .srv ok vc ⟨h0,h5⟩ λs _ s2 s3=> .bind (adA s i s2 (W6 s2 s3)) λ_ _=> .ret trivial) λ_=> .ret trivial
end
section
def Kp(x y:qN):Prop:=FF 1048576 y/\y.servers.length=x.servers.length
theorem Kp.self{x:qN}(ok:FF 1048576 x):Kp x x:=⟨ok,rfl⟩
theorem Kp.trans{x y z:qN}(h:Kp x y)(k:Kp y z):Kp x z:=⟨k.1,k.2.trans h.2⟩
theorem Kp.srvs{x y:qN}(h:Kp x y){S:List qQ}(hl:S.length=y.servers.length)(hs: ∀s∈S,FN 1048576 s):Kp x ⟨y.now,S,y.sides,y.master,y.masterUp,y.lease,y.places⟩:=
 ⟨⟨⟨by rw[hl];exact h.1.1.1,hs⟩,h.1.2⟩,hl.trans h.2⟩
theorem Kp.set{x y:qN}(h:Kp x y){s:qQ}(hs:FN 1048576 s)(i:Nat):Kp x ⟨y.now,y.servers.set i s,y.sides,y.master,y.masterUp,y.lease,y.places⟩:=
 h.srvs EL (RB h.1.1 hs i).2
theorem Tt.at{α:Type}{Q:α->Prop}{l:List qQ}(h5:l.length=5){a:Int}(ha:0<=a/\a<5){k:qQ->Option α}(h: ∀s,l[a.toNat]? =some s->s∈l->Tt Q (k s)):Tt Q (iteP (0<=a/\a< (l.length:Int)) ((l[a.toNat]?).bind k) none):=
 .ip (by rw[h5];exact ha) (.get (by omega) h)
theorem adn(x:qN)(ok:FF 1048576 x)(id:Int):Tt T1 (KN x id):=by obtain⟨b,b1,_,b2⟩:=Q1 x ok id;unfold KN;rw[b1,ak,Fg];refine .br (λe=> ?_) λ_=> .ret trivial;obtain⟨hv,h0,h5,_⟩:=b2 e;have vc:=FJ ok hv;refine .srv ok vc ⟨h0,h5⟩ λs _ s2 _=> .bind (Pm _ (Fr s2.1)) λy hy=> .bind (.count (B:=K1) (E:=λ_=>True) y.1.length (λk (b:Int)=>(((),b,(),(k:Int),()),(fx x,()),y.1,())) (λ_ _=>True) (λ_ _=> .end (EI _) (.ret trivial)) (λk b hk _=> .go (EH.2 hk) (.ip ⟨EG k,EH.2 hk⟩ (.get (tn hk) λz _ hz=> .srv ok vc (hy.2 z hz) λt _ _ _=> .ret ⟨_,by rw[kT (by have:=hy.1;unfold maxLen;omega) hk],trivial⟩))) 2 trivial) λ_ _=> .ret trivial
theorem abB(x:qN)(ok:FF 1048576 x)(id:Int)(o:Op):Tt (λy=>Kp x y.1/\(y.2.1=0->y.1.servers.length=5/\0<=id/\id<5)) (IK x id o):=by
 obtain⟨v,v1,_⟩:=FR x ok;unfold IK;rw[(GV x ok).1,ak,v1,ak,Fg];have bad: ∀n:Int,n≠0->Tt (λy:qN×Int×Unit=>Kp x y.1/\(y.2.1=0->y.1.servers.length=5/\0<=id/\id<5)) (some (x,n,())):=λn hn=> .ret ⟨.self ok,λh=>absurd h hn⟩;refine .br (λe=> ?_) λ_=>bad 1 (by decide);subst e;have vc:=FJ ok v1;rw[FZ,ak,Fg];refine .br (λh=> ?_) λ_=>bad 1 (by decide);have h:=Fj.1 h;have hid:0<=id/\id<5:=by omega
 rw[PR,ak,Fg];refine .br (λ_=> .srv ok vc hid λs s1 s2 s3=> ?_) λ_=>bad 1 (by decide);rw[Fg];refine .br (λ_=> ?_) λ_=>bad 2 (by decide);obtain⟨b,b1,_⟩:=My s id s2;rw[b1,ak,Fg];refine .br (λ_=> .bind (acr s.log _ _ (Fl s2.2.1)) λy hy=> ?_) λ_=>bad 3 (by decide);have good: ∀n:Int,Tt (λy:qN×Int×Unit=>Kp x y.1/\(y.2.1=0->y.1.servers.length=5/\0<=id/\id<5)) (some (x,n,())):=λn=> .ret ⟨.self ok,λ_=>⟨vc.len,hid⟩⟩
 extract_lets+lift j17 j18
 have h17:Tt (λy=>Kp x y.1/\(y.2.1=0->y.1.servers.length=5/\0<=id/\id<5)) j17:=by
  unfold j17;refine .at vc.len hid λs' e' hs'=> ?_;show Tt _ ((x.servers[id.toNat]?).bind _);rw[e',ak];have hs:=ok.1.2 s' hs';have hs3:=hs.2.1;obtain rfl:s'=s:=by rw[s1] at e';exact (Option.some.inj e').symm
  have hl:=(W6 s2 s3).2.2;refine .ip rfl ?_;have e1: ∀X Y:Option (qN×Int×Unit),iteP (s'.log.length<s'.log.length) X Y=Y:=λX Y=>by rw[C9,if_neg (dI _)]
  rw[e1]
  have hl2: (s'.log.take s'.log.length++([(⟨s'.epoch,o⟩:sf)]:List sf)).length<=17:=by rw[be,ci,cn];omega
  refine .ip (by omega) (.ip (by show 0<=id/\id< (x.servers.length:Int);rw[vc.len];exact hid) (.ip rfl (.ret ⟨(Kp.self ok).set (s:=⟨s'.up,s'.intact,s'.version,s'.epoch,s'.config,s'.first,s'.log.take s'.log.length++ [⟨s'.epoch,o⟩],s'.commit,s'.learned⟩) ⟨hs.1,ba hl2 (by omega),hs.2.2⟩ _,λ_=>⟨by show (x.servers.set _ _).length=5;rw[EL];exact vc.len,hid⟩⟩)))
 have h18:Tt (λy=>Kp x y.1/\(y.2.1=0->y.1.servers.length=5/\0<=id/\id<5)) j18:=by unfold j18;refine .bind (W4 s.log (Fl s2.2.1)) λm hm=> .bind (XY m.1 o (by omega) (by omega)) λz _=> ?_;rw[Fg];refine .br (λ_=> .bind (Q:=T1) (by unfold IV;exact .ret trivial) λw _=> ?_) λ_=>good 11;exact .br (λ_=> .bind (adn x ok id) λ_ _=> .br (λ_=>good 6) λ_=> .br (λ_=>good 5) λ_=>h17) λ_=> .br (λ_=>good 5) λ_=>h17
 refine .br (λh=> .ip (of_decide_eq_true h) (.get ?_ λe _ _=> ?_)) λ_=> .br (λ_=>good 0) λ_=>h18
 ·have h:=of_decide_eq_true h;omega
 ·rw[Fg];exact .br (λ_=> .br (λ_=>good 0) λ_=>h18) λ_=>good 11
theorem adY(x:qN)(ok:FF 1048576 x)(id m:Int):Tt (λy=>Kp x y.1/\(y.2.1=true->0<=m/\m<5)) (J9 x id m):=by
 obtain⟨b,b1,_,b2⟩:=Q1 x ok id;have bad:Tt (λy:qN×Bool×Unit=>Kp x y.1/\(y.2.1=true->0<=m/\m<5)) (some (x,false,())):=.ret ⟨.self ok,nofun⟩;unfold J9;rw[(GV x ok).1,ak,b1,ak,Fg];refine .br (λe=> ?_) λ_=>bad;obtain⟨hv,h0,h5,hp⟩:=b2 e;have vc:=FJ ok hv;refine .srv ok vc ⟨h0,h5⟩ λs s1 s2 s3=> .bind (Pm _ (Fr s2.1)) λy hy=> ?_;rw[(FI y.1 m (by have:=hy.1;unfold maxLen;omega)).1,ak,Fg];refine .br (λhm=> ?_) λ_=>bad;have hm:=hy.2 m (of_decide_eq_true hm);refine .bind (aap ok vc ⟨h0,h5⟩ hm) λz _=> ?_;rw[Fg];refine .br (λ_=> .srv ok vc ⟨h0,h5⟩ λt t1 t2 t3=> .srv ok vc ⟨h0,h5⟩ λu _ u2 _=> ?_) λ_=>bad;obtain⟨n,n1,_⟩:=OT u.config m (Fr u2.1);rw[n1,ak];have five: ∀ (i:Nat) (s:qQ),(x.servers.set i s).length=5:=λi s=>by rw[EL];exact vc.len
 refine .br (λ_=> ?_) λ_=> ?_
 ·rw[abi t.log t2.2.1 (L4 t2 t3).2.2.2.2.2.1,ak];refine .ip (by show 0<=m/\m< (x.servers.length:Int);rw[vc.len];exact hm) (.at vc.len hm λw _ hw=> ?_);have hw:=ok.1.2 w hw;refine .get (by rw[five];omega) λw' _ hw'=> .ret ⟨.srvs (.self ok) (by rw[EL,EL]) λs hs=> ?_,λ_=>hm⟩;have all:=(RB ok.1 (s:=⟨w.up,w.intact,w.version,w.epoch,w.config,((cutAt t.log:Nat):Int),w.log,w.commit,w.learned⟩) hw m.toNat)
  have hw':=all.2 w' hw';exact (RB all (s:=⟨w'.up,w'.intact,w'.version,w'.epoch,w'.config,w'.first,t.log.drop (cutAt t.log),w'.commit,w'.learned⟩) ⟨hw'.1,by show List.length _<=_;rw[bR];have:=t2.2.1;omega,hw'.2.2⟩ m.toNat).2 s hs
 ·rw[RN t2.2.1,ak];exact .at vc.len hm λw _ hw=> .ret ⟨(Kp.self ok).set (s:=⟨w.up,w.intact,w.version,w.epoch,w.config,w.first,t.log,w.commit,w.learned⟩) ⟨(ok.1.2 w hw).1,t2.2.1,(ok.1.2 w hw).2.2⟩ _,λ_=>hm⟩
theorem YQ{l:List qQ}(h:l.length=5/\ ∀s∈l,FN 1048576 s){s:qQ}(hs:FN 1048576 s)(i:Nat): (l.set i s).length=5/\ ∀t∈l.set i s,FN 1048576 t:=⟨by rw[EL];exact h.1,λt ht=>(db ht).elim (h.2 t) λe=>e ▸ hs⟩
abbrev fz:Int×Unit×Unit×Unit×Int×Int×Int×Int×Int×Unit×Unit:=(0,(),(),(),0,0,0,0,0,(),())
abbrev fc(x:qN):Int×Unit×Unit×Unit×Int×Int×Int×Int×Int×Unit×Unit:=(x.now,(),(),(),x.master.activated,x.masterUp,x.lease.epoch,x.lease.holder,x.lease.ends,(),())
theorem YS(x:qN)(ok:FF 1048576 x)(id:Int):Tt (λy=>Kp x y.1) (Ix x id):=by
 obtain⟨b,b1,_,b2⟩:=Q1 x ok id;unfold Ix;rw[(GV x ok).1,ak,b1,ak,Fg];refine .br (λe=> ?_) λ_=> .ret (.self ok);obtain⟨hv,h0,h5,hp⟩:=b2 e;have vc:=FJ ok hv;refine .srv ok vc ⟨h0,h5⟩ λs s1 s2 s3=> .bind (Pm _ (Fr s2.1)) λy hy=> ?_;have hl:y.1.length<=maxLen:=by have:=hy.1;unfold maxLen;omega
 refine .bind (.count (B:=JV) (E:=λe=> ∃ (c:qN) (a:Bool),Kp x c/\e=((id,(),(),(),a,()),(fz,fc c,()),y.1,c.servers,c.sides,c.master.configs,c.places,())) y.1.length (λk (b:qN×Bool)=>((id,(),(),(),b.2,(k:Int),()),(fz,fc b.1,()),y.1,b.1.servers,b.1.sides,b.1.master.configs,b.1.places,())) (λ_ b=>Kp x b.1) (λb hb=> .end (EI _) (.ret ⟨b.1,b.2,hb,rfl⟩)) (λk b hk hb=> .go (EH.2 hk) (.ip ⟨EG k,EH.2 hk⟩ (.get (tn hk) λz _ hz=> .bind (adY b.1 hb.1 id z) λw hw=> .br (λ_=> .ret ⟨(w.1,w.2.1),by rw[kT hl hk],hb.trans hw.1⟩) λ_=> .ret ⟨(w.1,false),by rw[kT hl hk],hb.trans hw.1⟩))) (x,true) (.self ok)) ?_
 rintro _ ⟨c,a,hc,rfl⟩
 refine .bind (.count (B:=Jq) (E:=λe=> ∃ (c:qN) (a:Bool),Kp x c/\e=(((),(),a,()),(fz,fc c,()),c.servers,c.sides,c.master.configs,c.places,())) y.1.length (λk (b:List qQ)=>((id,(),(),(),a,(k:Int),()),(fz,fc c,()),y.1,b,c.sides,c.master.configs,c.places,())) (λ_ b=>b.length=5/\ ∀s∈b,FN 1048576 s) (λb hb=> .end (EI _) (.ret ⟨⟨c.now,b,c.sides,c.master,c.masterUp,c.lease,c.places⟩,a,hc.srvs (by rw[hb.1,hc.2,vc.len]) hb.2,rfl⟩)) (λk b hk hb=> .go (EH.2 hk) (.br (λ_=> .ip ⟨EG k,EH.2 hk⟩ (.get (tn hk) λz _ hz=> .at hb.1 ⟨h0,h5⟩ λp _ _=> .at hb.1 (hy.2 z hz) λq _ hq=> .ret ⟨b.set z.toNat ⟨q.up,q.intact,q.version,q.epoch,q.config,q.first,q.log,((p.log.length:Nat):Int),q.learned⟩,by rw[kT hl hk],YQ hb (s:=⟨q.up,q.intact,q.version,q.epoch,q.config,q.first,q.log,((p.log.length:Nat):Int),q.learned⟩) (hb.2 q hq) _⟩)) λ_=> .ret ⟨⟨c.now,b,c.sides,c.master,c.masterUp,c.lease,c.places⟩,a,hc.srvs (by rw[hb.1,hc.2,vc.len]) hb.2,rfl⟩)) c.servers ⟨hc.2.trans vc.len,hc.1.1.2⟩) ?_
 rintro _ ⟨d,a',hd,rfl⟩
 exact .ret hd
theorem abE(x:qN)(ok:FF 1048576 x)(id:Int)(o:Op):Tt (λy=>Kp x y.1) (NR x id o):=by
 unfold NR;refine .bind (abB x ok id o) λy hy=> ?_;rw[Fg];refine .br (λe=> ?_) λ_=> .ret hy.1;obtain⟨h5,hid⟩:=hy.2 (eq_of_beq e)
 have same: ∀ {α:Type} {Q:α->Prop} {l:List qQ} {k:qQ->qQ->Option α},l.length=5->(∀s∈l,FN 1048576 s)->(∀s,FN 1048576 s->Tt Q (k s s))->Tt Q (iteP (0<=id/\id< (l.length:Int)) ((l[id.toNat]?).bind λa=>(l[id.toNat]?).bind λb=>k a b) none):=λh5 hs h=> .at h5 hid λs e1 e2=>by rw[e1,ak];exact h s (hs s e2)
 have Bm: ∀s:qQ,(s.log.drop 0).take s.log.length=s.log:=λs=>by rw[cF,EJ]
 refine same h5 hy.1.1.1.2 λs hs=> .ip (by omega) ?_;rw[Bm];refine .bind (acr _ _ _ (Fl hs.2.1)) λi _=> .at h5 hid λt _ _=> .br (λ_=> .bind (YS y.1 hy.1.1 id) λz hz=> ?_) λ_=>same h5 hy.1.1.1.2 λs hs=> .ip (by omega) ?_
 ·rw[Fg];refine .br (λ_=>same (hz.2.trans h5) hz.1.1.2 λs hs=> .ip (by omega) ?_) λ_=> .ret (hy.1.trans hz);rw[Bm];exact .bind (Zn _ _ (Fl hs.2.1)) λ_ _=> .ret (hy.1.trans hz)
 ·rw[Bm];exact .bind (Zn _ _ (Fl hs.2.1)) λ_ _=> .ret hy.1
end
section
theorem Nm(x:qN)(ok:FF 1048576 x):Tt (λy=>y.1=true->VC x) (Ff x):=by obtain⟨v,v1,_⟩:=FR x ok;exact⟨(v,()),v1,λe=>FJ ok (by rw[v1,show v=true from e])⟩
theorem YT(x:qN)(ok:FF 1048576 x)(e:Int): ∃c b,G4 x.master e=some (c,b,())/\GA maxLen c/\(VC x->c.replicas.length<=5/\c.witnesses.length<=5/\(∀z∈c.replicas,0<=z/\z<5)/\(∀z∈c.witnesses,0<=z/\z<5)/\(b=true->Fk c=some (true,())/\0<=c.primary/\c.primary<5)/\Oo c.replicas):=by
 obtain⟨c,b,h1,_,h2⟩:=MQ x.master e ok.2.2.1;refine⟨c,b,h1,h2,λvc=> ?_⟩;obtain⟨c',b',g1,_,g2,_,g3,g4⟩:=J1 x.master e ok.2.2.1 vc.ml;rw[h1] at g1;obtain⟨rfl,rfl⟩:c=c'/\b=b':=by simpa using g1
 cases b with
 |false=>rw[g4 rfl];exact⟨bH _,bH _,nofun,nofun,nofun,λk hk=>by simp at hk⟩
 |true=>obtain⟨a1,a2,a3,_⟩:=HV g2 (g3 rfl).1;exact⟨a1.len,a2.len,K0 a1,K0 a2,λ_=>⟨(g3 rfl).1,K0 a1 _ a3⟩,a1⟩
theorem XX(x:qN)(ok:FF 1048576 x): ∃c b,Fm x.master=some (c,b,())/\GA maxLen c/\(VC x->c.replicas.length<=5/\c.witnesses.length<=5/\(∀z∈c.replicas,0<=z/\z<5)/\(∀z∈c.witnesses,0<=z/\z<5)/\(b=true->Fk c=some (true,())/\0<=c.primary/\c.primary<5)/\Oo c.replicas):=by obtain⟨c,b,h1,h2⟩:=YT x ok x.master.activated;exact⟨c,b,by unfold Fm;rw[h1];rfl,h2⟩
theorem XS(s:qQ)(e:Int)(h:FN 1048576 s):Tt (λy=>FN 1048576 y.1) (HE s e):=by unfold HE;rw[(Ov s h).1,ak,FZ,ak,Fg];exact .br (λ_=> .br (λ_=> .ret h) λ_=> .br (λ_=> .ret h) λ_=> .ret h) λ_=> .ret h
theorem ad2(x:qN)(ok:FF 1048576 x)(id e:Int):Tt (λy=>Kp x y.1) (GC x id e):=by
 obtain⟨c,b,c1,c2,c3⟩:=XX x ok;unfold GC;rw[(GV x ok).1,ak,c1,ak];refine .bind (Nm x ok) λv hv=> ?_;rw[Fg];refine .br (λh=> ?_) λ_=> .ret (.self ok);have vc:=hv h;rw[Fg];refine .br (λ_=> ?_) λ_=> .ret (.self ok);rw[FZ,ak,Fg];refine .br (λ_=> .bind (Pm c c2) λm hm=> ?_) λ_=> .ret (.self ok);have hl:m.1.length<=maxLen:=by have:=hm.1;unfold maxLen;omega
 refine .bind (.count (B:=GB) (E:=λe=> ∃S:List qQ,(S.length=5/\ ∀s∈S,FN 1048576 s)/\e=(((),(),()),(fz,fc x,()),S,x.sides,x.master.configs,x.places,())) m.1.length (λk (S:List qQ)=>((id,e,(),(),(),(),(k:Int),()),(fx x,fz,fc x,()),m.1,S,x.sides,x.master.configs,x.places,())) (λ_ S=>S.length=5/\ ∀s∈S,FN 1048576 s) (λS hS=> .end (EI _) (.ret ⟨S,hS,rfl⟩)) (λk S hk hS=> .go (EH.2 hk) (.ip ⟨EG k,EH.2 hk⟩ (.get (tn hk) λz hz' hz=> .srv ok vc (hm.2 z hz) λs _ _ _=> .br (λ_=> .ip ⟨EG k,EH.2 hk⟩ (.get (tn hk) λz2 _ hz2=> .bind (XU ok vc id z2) λ_ _=> .br (λ_=> .ip ⟨EG k,EH.2 hk⟩ (.get (tn hk) λz3 _ hz3=> .ip ⟨EG k,EH.2 hk⟩ (.get (tn hk) λz4 _ hz4=> .srv ok vc (hm.2 z4 hz4) λt _ t2 _=> .bind (XS t e t2) λu hu=> .at hS.1 (hm.2 z3 hz3) λ_ _ _=> .ret ⟨S.set z3.toNat u.1,by rw[kT hl hk],YQ hS hu _⟩))) λ_=> .ret ⟨S,by rw[kT hl hk],hS⟩)) λ_=> .ret ⟨S,by rw[kT hl hk],hS⟩))) x.servers ⟨vc.len,ok.1.2⟩) ?_
 rintro _ ⟨S,hS,rfl⟩
 exact .ret ((Kp.self ok).srvs (by rw[hS.1,vc.len]) hS.2)
section
variable {x:qN} (ok:FF 1048576 x) (vc:VC x) (id:Int)
include ok vc
theorem abq:Tt (λy=>y.1.length<=5/\ ∀z∈y.1,0<=z/\z<5) (G3 x id):=by
 obtain⟨c,d,c1,c2,c3⟩:=XX x ok;obtain⟨r5,_,inr,_⟩:=c3 vc;have rm:c.replicas.length<=maxLen:=by unfold maxLen;omega
 unfold G3;rw[c1,ak];refine .bind (.count (B:=Hc) (E:=λe=>e.2.2.1.length<=5/\ ∀z∈e.2.2.1,0<=z/\z<5) c.replicas.length (λk (b:List Int)=>((id,(),(),(),d,(k:Int),()),(fx x,(c.epoch,c.primary,(),(),()),()),b,c.replicas,c.witnesses,())) (λk b=>b.length<=k/\ ∀z∈b,0<=z/\z<5) (λb hb=> .end (EI _) (.ret ⟨ba hb.1 r5,hb.2⟩)) (λk b hk hb=> ?_) [] ⟨az _,nofun⟩) λy hy=> .ret hy;have ex:b.length<=5/\ ∀z∈b,0<=z/\z<5:=⟨by omega,hb.2⟩
 have st:b.length<=k+1/\ ∀z∈b,0<=z/\z<5:=⟨by omega,hb.2⟩
 refine .go (EH.2 hk) (.br (λ_=> .bind (Nm x ok) λ_ _=> .br (λ_=> ?_) λ_=> .ret ex) λ_=> .ret ex);rw[FZ,ak];refine .br (λ_=> .ip ⟨EG k,EH.2 hk⟩ (.get (tn hk) λz _ hz=> .srv ok vc (inr z hz) λs _ _ _=> .br (λ_=> .br (λ_=> .ip ⟨EG k,EH.2 hk⟩ (.get (tn hk) λz2 _ hz2=> .bind (XU ok vc id z2) λ_ _=> .br (λ_=> .ip ⟨EG k,EH.2 hk⟩ (.get (tn hk) λz3 _ hz3=> .ip ?_ (.ret ⟨b++ [z3],by rw[kT rm hk],?_⟩))) λ_=> .ret ⟨b,by rw[kT rm hk],st⟩)) λ_=> .ret ⟨b,by rw[kT rm hk],st⟩) λ_=> .ret ⟨b,by rw[kT rm hk],st⟩)) λ_=> .ret ex
 ·show (b++ [z3]).length*8<=2 ^ 40;rw[be,cn];omega
 ·exact⟨by rw[be,cn];omega,λy hy=>(bi.1 hy).elim (hb.2 y) λh=>by rw[aJ.1 h];exact inr z3 hz3⟩
theorem adM:Tt (λy=>y.1= -1\/0<=y.1/\y.1<5) (G2 x id):=by
 unfold G2;refine .bind (abq ok vc id) λl hl=> ?_;have lm:l.1.length<=maxLen:=by have:=hl.1;unfold maxLen;omega
 refine .bind (.count (B:=Hb) (E:=λe=>e.1.1= -1\/0<=e.1.1/\e.1.1<5) l.1.length (λk (b:Int)=>(((),b,(),(k:Int),()),(fx x,()),l.1,())) (λ_ b=>b= -1\/0<=b/\b<5) (λb hb=> .end (EI _) (.ret hb)) (λk b hk hb=> ?_) (-1) (.inl rfl)) λy hy=> .ret hy;refine .go (EH.2 hk) (.br (λ_=> .ip ⟨EG k,EH.2 hk⟩ (.get (tn hk) λz _ hz=> .ret ⟨z,by rw[kT lm hk],.inr (hl.2 z hz)⟩)) λhn=> .ip ⟨EG k,EH.2 hk⟩ (.get (tn hk) λz _ hz=> .srv ok vc (hl.2 z hz) λs _ _ _=> .srv ok vc (a:=b) ?_ λt _ _ _=> .br (λ_=> .ip ⟨EG k,EH.2 hk⟩ (.get (tn hk) λz2 _ hz2=> .ret ⟨z2,by rw[kT lm hk],.inr (hl.2 z2 hz2)⟩)) λ_=> .ret ⟨b,by rw[kT lm hk],hb⟩));have hn: ¬b<0:=of_decide_eq_false hn;omega
omit ok vc in
theorem Zz(f:Int)(l:List sf)(hl:l.length<=maxLen):Tt (λy=>y.1=true->0<=f/\l.length<=3) (NK f l):=by obtain⟨b,b1,b2⟩:=Qj hl;unfold NK;rw[b1,ak];refine .br (λ_=> .br (λh=> ?_) λ_=> .ret nofun) λ_=> .ret nofun;have h: (l.length:Int)<=3:=of_decide_eq_true h;rw[FZ,ak];refine .br (λw=> ?_) λ_=> .ret nofun;have w:=Fj.1 w;exact .br (λ_=> .ret λ_=>⟨w.1,by omega⟩) λ_=> .ret λ_=>⟨w.1,by omega⟩
omit ok vc in
theorem adR(a:List sf)(f:Int)(t:List sf)(ha:a.length<=1048576)(ht:t.length<=1048576):Tt (λy=>y.1.length<=19) (Jx a f t):=by
 obtain⟨b,b1,b2⟩:=Qj (Fl ha);unfold Jx;rw[b1,ak,Fg];refine .br (λe=> ?_) λ_=> .ret (bH _);have h16:=b2 e;refine .bind (Zz f t (Fl ht)) λg hg=> ?_;rw[Fg];refine .br (λe=> ?_) λ_=> .ret (bH _);obtain⟨f0,t3⟩:=hg e;refine .br (λ_=> .ret (bH _)) λhn=> ?_;have hn: ¬f>(a.length:Int):=of_decide_eq_false hn;obtain⟨n,n1,n2,n3,_⟩:=PD ((a.drop f.toNat).take ((a.length:Int).toNat-f.toNat)) t (ba (by rw[ci,bR];omega) (Fl ha));refine .ip (by omega) ?_;rw[n1,ak,of (n:=(a.length:Int)-f) (by omega) (by omega)];refine .br (λ_=> .ret (bH _)) λ_=> ?_;rw[RN ha,ak]
 have hl: (a++((t.drop (n:Int).toNat).take ((t.length:Int).toNat-(n:Int).toNat))).length<=19:=by rw[be,ci,bR];omega
 refine .ip (by omega) (.ip (ba (bg 56 hl) (by omega)) ?_);obtain⟨d,d1,_⟩:=Qj (l:=a++((t.drop (n:Int).toNat).take ((t.length:Int).toNat-(n:Int).toNat))) (by unfold maxLen;omega);rw[show F9 _=_ from d1,ak,Fg];exact .br (λ_=> .ret hl) λ_=> .ret (bH _)
omit ok vc in
theorem adL(s:qQ)(id:Int)(h:FN 1048576 s)(hf:0<=s.first/\s.first<=16/\s.log.length<=16):Tt (λy=>y.1.length<=1048576) (Ky s id):=by obtain⟨n,n1,_⟩:=OT s.config id (Fr h.1);unfold Ky;rw[n1,ak,RN h.2.2,ak];have fm:Tt (λy:List sf×Unit=>y.1.length<=1048576) ((FM s).bind λy3=>br (decide ((y3.1.length:Int)>(s.learned.length:Int))) (some (y3.1,())) (some (s.learned,()))):=.bind (Ru s h hf) λy hy=> .br (λ_=> .ret (by show y.1.length<=_;omega)) λ_=> .ret h.2.2;exact .br (λ_=>fm) λ_=> .br (λ_=>fm) λ_=> .ret h.2.2
theorem adF{c:om}{w:qQ}(hw:FN 1048576 w)(j:Int)(d:Bool)(b:List sf×Bool)(hb:b.1.length<=19):Tt (λe=> ∃r:List sf×Bool,r.1.length<=19/\e=((id,(),(),r.2,(),d,j,()),(fx x,(c.epoch,c.primary,(),(),()),()),r.1,c.replicas,c.witnesses,())) (K7 ((id,(),(),b.2,(),d,j,(),0,()),(fx x,(c.epoch,c.primary,(),(),()),fsv w,()),b.1,c.replicas,c.witnesses,())):=by
 refine .count (B:=GZ) (E:=λe=> ∃r:List sf×Bool,r.1.length<=19/\e=((id,(),(),r.2,(),d,j,()),(fx x,(c.epoch,c.primary,(),(),()),()),r.1,c.replicas,c.witnesses,())) 5 (λk (b:List sf×Bool)=>((id,(),(),b.2,(),d,j,(),(k:Int),()),(fx x,(c.epoch,c.primary,(),(),()),fsv w,()),b.1,c.replicas,c.witnesses,())) (λ_ b=>b.1.length<=19) (λb hb=> .end (EI _) (.ret ⟨b,hb,rfl⟩)) (λk b hk hb=> ?_) b hb;have hkk:0<=(k:Int)/\(k:Int)<5:=⟨EG k,EH.2 hk⟩
 have sw:=kT (n:=5) (by decide) hk;refine .go hkk.2 (.srv ok vc hkk λs _ _ _=> ?_);dsimp only;rw[sw,Fg];refine .br (λ_=> .bind (XU ok vc id k) λy _=> ?_) λ_=> .ret ⟨b,rfl,hb⟩;rw[Fg];refine .br (λ_=> .srv ok vc hkk λt _ t2 t3=> .bind (adL t k t2 (W6 t2 t3)) λy hy=> .bind (adR y.1 w.first w.log hy hw.2.1) λz hz=> .br (λ_=> ?_) λ_=> .ret ⟨b,rfl,hb⟩) λ_=> .ret ⟨b,rfl,hb⟩;rw[Fg];exact .br (λ_=> .br (λ_=> .ret ⟨(z.1,true),rfl,hz⟩) λ_=> .ret ⟨b,rfl,hb⟩) λ_=> .ret ⟨(z.1,true),rfl,hz⟩
theorem abA:Tt (λy=>y.1.length<=19) (GH x id):=by
 obtain⟨c,d,c1,c2,c3⟩:=XX x ok;obtain⟨_,r5,_,inw,_⟩:=c3 vc;have rm:c.witnesses.length<=maxLen:=by unfold maxLen;omega
 unfold GH;rw[c1,ak];refine .bind (.count (B:=Gw) (E:=λe=>e.2.2.1.length<=19) c.witnesses.length (λk (b:List sf×Bool)=>((id,(),(),b.2,(),d,(k:Int),()),(fx x,(c.epoch,c.primary,(),(),()),()),b.1,c.replicas,c.witnesses,())) (λ_ b=>b.1.length<=19) (λb hb=> .end (EI _) (.ret hb)) (λk b hk hb=> ?_) ([],false) (bH _)) λy hy=> .ret hy;refine .go (EH.2 hk) (.br (λ_=> .bind (Nm x ok) λ_ _=> .br (λ_=> ?_) λ_=> .ret hb) λ_=> .ret hb);rw[FZ,ak];refine .br (λ_=> .ip ⟨EG k,EH.2 hk⟩ (.get (tn hk) λz _ hz=> .srv ok vc (inw z hz) λs _ s2 _=> ?_)) λ_=> .ret hb;have sw:=kT rm hk;rw[Fg];refine .br (λ_=> ?_) λ_=> .ret ⟨b,by rw[sw],hb⟩;rw[Fg];refine .br (λ_=> .ip ⟨EG k,EH.2 hk⟩ (.get (tn hk) λz2 _ _=> .bind (XU ok vc id z2) λy _=> ?_)) λ_=> .ret ⟨b,by rw[sw],hb⟩;rw[Fg];refine .br (λ_=> .bind (adF ok vc id (c:=c) s2 k d b hb) ?_) λ_=> .ret ⟨b,by rw[sw],hb⟩
 rintro _ ⟨r,hr,rfl⟩
 exact .ret ⟨r,by rw[<-sw],hr⟩
theorem ach:Tt (λy=>y.1.length<=1048576) (Gp x id):=by unfold Gp;refine .bind (Nm x ok) λv _=> ?_;rw[Fg];refine .br (λ_=> ?_) λ_=> .ret (bH _);rw[FZ,ak,Fg];refine .br (λ_=> .br (λ_=> .ret (bH _)) λ_=> .bind (adM ok vc id) λn hn=> .br (λh=> ?_) λ_=> .bind (abA ok vc id) λy hy=> .ret (by show y.1.length<=_;omega)) λ_=> .ret (bH _);have h:n.1≥0:=of_decide_eq_true h;refine .srv ok vc (by omega) λs _ s2 _=> ?_;rw[RN s2.2.1];exact .ret s2.2.1
end
theorem Ud(l:List sf)(hl:l.length<=maxLen):Tt T1 (FO l):=by unfold FO;refine .bind (.count (B:=Hy) (E:=λ_=>True) l.length (λk (_:Unit)=>((l,(k:Int),()),(),())) (λ_ _=>True) (λ_ _=> .end (EI _) (.ret trivial)) (λk _ hk _=> .go (EH.2 hk) (.ip (EG k) (.get (tn hk) λe _ _=> .bind (Q:=T1) (by unfold IV;exact .ret trivial) λ_ _=> .br (λ_=> .ret trivial) λ_=> .ret ⟨(),by rw[kT hl hk],trivial⟩))) () trivial) λy _=> ?_;cases y<;>exact .ret trivial
theorem Xj(s:qQ)(c:om)(id:Int)(l:List sf)(hs:FN 1048576 s)(hc:GA 1048576 c)(hl:l.length<=1048576):Tt (λy=>FN 1048576 y.1) (Gj s c id l):=by
 obtain⟨n,n1,_⟩:=OT c id (Fr hc);obtain⟨b,b1,_⟩:=Qj (Fl hl);obtain⟨e,e1,_⟩:=KB l (Fl hl);unfold Gj;simp only[n1,b1,e1,(Ov s hs).1,(MF c hc).1,RN hl,FZ,ak,Fg,Ul l hl];have hk:cutAt l<=l.length:=Nat.sub_le _ _
 have hl2: ((l.drop (cutAt l)).take ((l.length:Int).toNat-cutAt l)).length<=1048576:=by rw[ci,bR];omega
 refine .br (λ_=> .ret hs) λ_=> .br (λ_=> .br (λ_=> .br (λ_=> .br (λ_=> .ret hs) λ_=> .br (λ_=> .bind (Ud l (Fl hl)) λ_ _=> .br (λ_=> .ret hs) λ_=> ?_) λ_=> ?_) λ_=> .ret hs) λ_=> .ret hs) λ_=> .ret hs
 all_goals
  exact .br (λ_=> .ip (by omega) (.bind (Q:=λy=>y.1.length<=1048576) ⟨_,RN hl2,hl2⟩ λy hy=> .ret ⟨hc,hy,bH _⟩)) λ_=> .ret ⟨hc,hl,bH _⟩
theorem Uf(m:kB)(h:Mx 1048576 m)(e:Int):Tt (λy=>Mx 1048576 y.1/\y.1.configs.length=m.configs.length) (Ga m e):=by obtain⟨b,b1,_⟩:=masterLog m (GS h);unfold Ga;rw[(PE m h).1,ak,b1,ak,Fg];refine .br (λ_=> ?_) λ_=> .ret ⟨h,rfl⟩;rw[Fg];exact .br (λ_=> .br (λ_=> .ret ⟨h,rfl⟩) λ_=> .ret ⟨h,rfl⟩) λ_=> .ret ⟨h,rfl⟩
theorem Sw(x:qN)(ok:FF 1048576 x):Tt (λy=>Kp x y.1) (HQ x):=by
 obtain⟨c,b,c1,c2,c3⟩:=YT x ok (x.master.configs.length:Int);unfold HQ HD;rw[(GV x ok).1,ak,c1,ak,ak];refine .bind (Nm x ok) λv hv=> ?_;rw[Fg];refine .br (λh=> ?_) λ_=> .ret (.self ok);have vc:=hv h;rw[Fg];refine .br (λhb=> .br (λ_=> .ret (.self ok)) λ_=> .br (λ_=> .ret (.self ok)) λ_=> ?_) λ_=> .ret (.self ok);obtain⟨r5,w5,_,_,hp,_⟩:=c3 vc;have hp:=(hp hb).2;have hc:GA 1048576 c:=⟨by omega,by omega⟩
 have s5:=Kn (Fl ok.2.1) vc.sides;refine .srv ok vc hp λs _ _ _=> ?_;rw[Fg];refine .br (λ_=> .ip hp.1 (.get (by show c.primary.toNat<x.sides.length;omega) λsd _ _=> ?_)) λ_=> .ret (.self ok);rw[Fg];refine .br (λ_=> ?_) λ_=> .ret (.self ok);obtain⟨o,o1,_⟩:=Qt x.lease x.now;rw[o1,ak,Fg];refine .br (λ_=> .bind (ad2 x ok c.primary c.epoch) λy hy=> .bind (ach ok vc c.primary) λl hl=> ?_) λ_=> .ret (.self ok);rw[Fg];refine .br (λ_=> .bind (Pm c c2) λm hm=> ?_) λ_=> .ret hy;have ml:m.1.length<=maxLen:=by have:=hm.1;unfold maxLen;omega
 have hyS:y.1.servers.length=5/\ ∀s∈y.1.servers,FN 1048576 s:=⟨hy.2.trans vc.len,hy.1.1.2⟩
 refine .bind (.count (B:=H0) (E:=Sum.elim (λe=> ∃n:Int,e=(((),(),n,(),(),(),(),()),(fx x,fc y.1,(fc y.1,(c.epoch,c.primary,(),(),()),())),l.1,m.1,y.1.servers,y.1.sides,y.1.master.configs,y.1.places,c.replicas,c.witnesses,())) λe=>e.2=((fx x,fz,fc y.1,(c.epoch,c.primary,(),(),()),()),l.1,m.1,y.1.servers,y.1.sides,y.1.master.configs,y.1.places,c.replicas,c.witnesses,())) m.1.length (λk (_:Unit)=>(((),(),(),(),(),(),(k:Int),()),(fx x,fz,fc y.1,(c.epoch,c.primary,(),(),()),()),l.1,m.1,y.1.servers,y.1.sides,y.1.master.configs,y.1.places,c.replicas,c.witnesses,())) (λ_ _=>True) (λ_ _=> .end (EI _) (.ret rfl)) (λk _ hk _=> ?_) () trivial) λe he=> ?_
 ·refine .go (EH.2 hk) (.ip ⟨EG k,EH.2 hk⟩ (.get (tn hk) λz _ hz=> .srv ok vc (hm.2 z hz) λs _ _ _=> ?_));rw[Fg];refine .br (λ_=> .ip ⟨EG k,EH.2 hk⟩ (.get (tn hk) λz2 _ hz2=> .ip (hm.2 z2 hz2).1 (.get (by have:=hm.2 z2 hz2;show z2.toNat<x.sides.length;omega) λw _ _=> ?_))) λ_=> .ret ⟨_,rfl⟩;rw[Fg];exact .br (λ_=> .ret ⟨(),by rw[kT ml hk],trivial⟩) λ_=> .ret ⟨_,rfl⟩
 cases e with
 |inl e=>obtain⟨n,rfl⟩:=he;exact .ret hy
 |inr e=>
  show Tt _ ((KX (((),(),(),(),(),(),0,()),e.2)).bind _);rw[show e.2=_ from he];refine .bind (.count (B:=GU) (E:=Sum.elim (λe=> ∃n:Int,e=(((),(),n,(),(),(),(),()),(fx x,fc y.1,(fc y.1,(c.epoch,c.primary,(),(),()),())),l.1,m.1,y.1.servers,y.1.sides,y.1.master.configs,y.1.places,c.replicas,c.witnesses,())) λe=>e.2=((fx x,fz,fc y.1,(c.epoch,c.primary,(),(),()),()),l.1,m.1,y.1.servers,y.1.sides,y.1.master.configs,y.1.places,c.replicas,c.witnesses,())) m.1.length (λk (_:Unit)=>(((),(),(),(),(),(),(k:Int),()),(fx x,fz,fc y.1,(c.epoch,c.primary,(),(),()),()),l.1,m.1,y.1.servers,y.1.sides,y.1.master.configs,y.1.places,c.replicas,c.witnesses,())) (λ_ _=>True) (λ_ _=> .end (EI _) (.ret rfl)) (λk _ hk _=> .go (EH.2 hk) (.ip ⟨EG k,EH.2 hk⟩ (.get (tn hk) λz _ hz=> .srv ok vc (hm.2 z hz) λs _ _ _=> .br (λ_=> .bind (Ud l.1 (Fl hl)) λ_ _=> .br (λ_=> .ret ⟨_,rfl⟩) λ_=> .ret ⟨(),by rw[kT ml hk],trivial⟩) λ_=> .ret ⟨(),by rw[kT ml hk],trivial⟩))) () trivial) λe he=> ?_;cases e with
  |inl e=>obtain⟨n,rfl⟩:=he;exact .ret hy
  |inr e=>
   show Tt _ ((MO (((),(),(),(),(),(),0,()),e.2)).bind _);rw[show e.2=_ from he];refine .bind (.count (B:=H1) (E:=λe=> ∃S:List qQ,(S.length=5/\ ∀s∈S,FN 1048576 s)/\e=(((),(),(),(),()),(fx x,fz,fc y.1,(c.epoch,c.primary,(),(),()),()),S,y.1.sides,y.1.master.configs,y.1.places,c.replicas,c.witnesses,())) m.1.length (λk (S:List qQ)=>(((),(),(),(),(),(),(k:Int),()),(fx x,fz,fc y.1,(c.epoch,c.primary,(),(),()),()),l.1,m.1,S,y.1.sides,y.1.master.configs,y.1.places,c.replicas,c.witnesses,())) (λ_ S=>S.length=5/\ ∀s∈S,FN 1048576 s) (λS hS=> .end (EI _) (.ret ⟨S,hS,rfl⟩)) (λk S hk hS=> ?_) y.1.servers hyS) ?_
   ·refine .go (EH.2 hk) (.ip ⟨EG k,EH.2 hk⟩ (.get (tn hk) λz _ hz=> .ip ⟨EG k,EH.2 hk⟩ (.get (tn hk) λz2 _ hz2=> .at hS.1 (hm.2 z2 hz2) λs e' hs=> .ip ⟨EG k,EH.2 hk⟩ (.get (tn hk) λz3 _ _=> ?_))));dsimp only;simp only[e',ak,cF,EJ,aM];refine .ip (az _) (.ip (az _) (.ip (az _) (.ip (az _) (.bind (Xj s c z3 l.1 (hS.2 s hs) hc hl) λu hu=> .at hS.1 (hm.2 z hz) λ_ _ _=> .ret ⟨S.set z.toNat u.1,by rw[kT ml hk],YQ hS hu _⟩))))
   ·rintro _ ⟨S,hS,rfl⟩
    refine .bind (Uf x.master ok.2.2.1 c.epoch) λw hw=> .ret ?_;exact⟨⟨⟨by show S.length<=_;rw[hS.1];decide,hS.2⟩,hy.1.2.1,hw.1,hy.1.2.2.2⟩,by show S.length=_;rw[hS.1,vc.len]⟩
end
section
theorem Tw(m:kB)(h:Mx 1048576 m)(c:om)(hc:GA 1048576 c):Tt (λy=>Mx 1048576 y.1/\y.1.configs.length<=m.configs.length+1) (Hl m c):=by
 have self:Mx 1048576 m/\m.configs.length<=m.configs.length+1:=⟨h,cM _⟩
 obtain⟨b,b1,_⟩:=masterLog m (GS h);obtain⟨d,d1,_⟩:=HH c (Fr hc);unfold Hl;rw[(PE m h).1,ak,b1,ak,Fg];refine .br (λe=> ?_) λ_=> .ret self;subst e;have hl:=Zj h b1;rw[d1,ak,Fg];refine .br (λ_=> ?_) λ_=> .ret self;rw[Fg];refine .br (λ_=> ?_) λ_=> .ret self;rw[(MF c hc).1,ak];have h2: (m.configs++ [c]).length<=21:=by rw[be,cn];omega
 exact .ip (ba (bg 64 h2) (by omega)) (.ret ⟨⟨ba h2 (by omega),λd hd=>(bi.1 hd).elim (h.2 d) λe=>by rw[aJ.1 e];exact hc⟩,by show (m.configs++ [c]).length<=_;rw[be];exact az _⟩)
theorem Q3(x:qN)(ok:FF 1048576 x)(c:om)(hc:GA 1048576 c):Tt (λy=>Kp x y.1) (GX x c):=by unfold GX;rw[(GV x ok).1,ak];refine .bind (Nm x ok) λv _=> ?_;rw[Fg];refine .br (λ_=> .br (λ_=> .ret (.self ok)) λ_=> .bind (Tw x.master ok.2.2.1 c hc) λm hm=> ?_) λ_=> .ret (.self ok);rw[Fg];exact .br (λ_=> .ret ⟨⟨ok.1,ok.2.1,hm.1,ok.2.2.2⟩,rfl⟩) λ_=> .ret (.self ok)
theorem adf(x:qN)(ok:FF 1048576 x)(n:Int):Tt (λy=>Kp x y.1) (Mf x n):=by unfold Mf;rw[(GV x ok).1,ak];refine .bind (Nm x ok) λv _=> ?_;rw[Fg];refine .br (λ_=> ?_) λ_=> .ret (.self ok);rw[FZ,ak,Fg];exact .br (λ_=> .ret ⟨ok,rfl⟩) λ_=> .ret (.self ok)
theorem acs(x:qN)(ok:FF 1048576 x)(id:Int):Tt (λy=>y.1=true->VC x/\0<=id/\id<5) (IA x id):=by obtain⟨b,b1,_,b2⟩:=Um x id ok;exact⟨_,b1,λe=>⟨FJ ok (b2 e).1,(b2 e).2⟩⟩
theorem abx(x:qN)(ok:FF 1048576 x)(id:Int):Tt (λy=>Kp x y.1) (JI x id):=by unfold JI;rw[(GV x ok).1,ak];refine .bind (acs x ok id) λv hv=> ?_;rw[Fg];refine .br (λe=> ?_) λ_=> .ret (.self ok);obtain⟨vc,hid⟩:=hv e;refine .srv ok vc hid λs _ _ _=> .br (λ_=> .ret (.self ok)) λ_=> .srv ok vc hid λt _ _ _=> ?_;rw[Fg];exact .br (λ_=> .at vc.len hid λu _ hu=> .ret ((Kp.self ok).set (s:=⟨u.up,u.intact,2,u.epoch,u.config,u.first,u.log,u.commit,u.learned⟩) (ok.1.2 u hu) _)) λ_=> .ret (.self ok)
theorem X4(x:qN)(ok:FF 1048576 x)(id:Int):Tt (λy=>Kp x y.1) (IL x id):=by
 unfold IL;rw[(GV x ok).1,ak];refine .bind (acs x ok id) λv hv=> ?_;rw[Fg];refine .br (λe=> ?_) λ_=> .ret (.self ok);obtain⟨vc,hid⟩:=hv e;refine .srv ok vc hid λs _ _ _=> .br (λ_=> .ret (.self ok)) λ_=> .srv ok vc hid λt _ _ _=> ?_;rw[Fg];refine .br (λ_=> .srv ok vc hid λs _ s2 _=> .bind (Q:=T1) ?_ λ_ _=> .br (λ_=> .ret (.self ok)) λ_=> .bind (.count (B:=IC) (E:=Sum.elim (λe=> ∃n:Int,e=((id,(),n,(),()),(fc x,fc x,()),x.servers,x.sides,x.master.configs,x.places,())) λe=>e=((id,(),(),(),()),(fz,fc x,()),x.servers,x.sides,x.master.configs,x.places,())) x.servers.length (λk (_:Unit)=>((id,(),(),(),(),(k:Int),()),(fx x,fz,fc x,fsv s,()),x.servers,x.sides,x.master.configs,x.places,())) (λ_ _=>True) (λ_ _=> .end (EI _) (.ret rfl)) (λk _ hk _=> ?_) () trivial) λe he=> ?_) λ_=> .ret (.self ok)
 ·unfold Jf;exact .bind (Ud _ (Fl s2.2.2)) λ_ _=> .ret trivial
 ·have sw:=kT (Fl ok.1.1) hk;refine .go (EH.2 hk) ?_;rw[show JS _=_ from MN s.config (Fr s2.1),ak,Fg];refine .br (λ_=> .ret rfl) λ_=> .ip (EG k) (.get (tn hk) λt _ ht=> ?_);have ht:=ok.1.2 t ht;rw[show Hf _ _=_ from (GD t.config s.config (Fr ht.1)).1,ak];refine .br (λ_=> .ip (EG k) (.get (tn hk) λu _ hu=> .bind (Q:=T1) ?_ λ_ _=> .br (λ_=> .ret ⟨_,rfl⟩) λ_=> .ret ⟨(),by rw[sw],trivial⟩)) λ_=> .ret ⟨(),by rw[sw],trivial⟩;unfold Jf;exact .bind (Ud _ (Fl (ok.1.2 u hu).2.1)) λ_ _=> .ret trivial
 cases e with
 |inl e=>obtain⟨n,rfl⟩:=he;exact .ret (.self ok)
 |inr e=>obtain rfl:=he;exact .at vc.len hid λu _ hu=> .ret ((Kp.self ok).set (s:=⟨u.up,u.intact,1,u.epoch,u.config,u.first,u.log,u.commit,u.learned⟩) (ok.1.2 u hu) _)
theorem abk(x:qN)(ok:FF 1048576 x):Tt T1 (FY x):=by
 obtain⟨c,b,c1,c2,c3⟩:=XX x ok;unfold FY;rw[c1,ak];refine .bind (Nm x ok) λv hv=> ?_;rw[Fg];refine .br (λh=> ?_) λ_=> .ret trivial;have vc:=hv h;rw[Fg];refine .br (λhb=> ?_) λ_=> .ret trivial;obtain⟨_,_,_,_,hp,_⟩:=c3 vc;have hp:=(hp hb).2;refine .srv ok vc hp λs _ s2 _=> ?_;obtain⟨d,d1,_⟩:=My s c.primary s2;rw[d1,ak,Fg];refine .br (λ_=> .srv ok vc hp λt _ _ _=> ?_) λ_=> .ret trivial;rw[Fg];refine .br (λ_=> .bind (Pm c c2) λm hm=> .bind (.count (B:=Gv) (E:=λ_=>True) m.1.length (λk (_:Unit)=>(((),(),(),(k:Int),()),(fx x,(c.epoch,c.primary,(),(),()),()),m.1,c.replicas,c.witnesses,())) (λ_ _=>True) (λ_ _=> .end (EI _) (.ret trivial)) (λk _ hk _=> .go (EH.2 hk) (.ip ⟨EG k,EH.2 hk⟩ (.get (tn hk) λz _ hz=> .bind (aap ok vc hp (hm.2 z hz)) λy _=> ?_))) () trivial) λe _=> ?_) λ_=> .ret trivial
 ·rw[Fg];exact .br (λ_=> .ret ⟨(),by rw[kT (by have:=hm.1;unfold maxLen;omega) hk],trivial⟩) λ_=> .ret trivial
 ·cases e<;>exact .ret trivial
theorem YY(x:qN)(ok:FF 1048576 x):Tt T1 (H3 x):=by unfold H3;exact .bind (abk x ok) λ_ _=> .ret trivial
section
variable {l:List vB} (hl:l.length<=maxLen) (hv:F0 l=some (true,()))
include hl hv
theorem adz(m:List Int)(hm:Oo m):Tt (λy=>y.1.length<=5) (OY l m):=by have h5:=SO hl hv;have ml:=hm.len;unfold OY;refine .bind (.count (B:=Ou) (E:=λe=>e.2.2.1.length<=5) m.length (λk (b:List Int)=>((l,m,(),(k:Int),()),(),b,())) (λk b=>b.length<=k/\SS b) (λb hb=> .end (EI _) (.ret (ba hb.1 ml))) (λk b hk hb=> ?_) [] ⟨az _,List.Pairwise.nil⟩) λy hy=> .ret hy;refine .go (EH.2 hk) ?_;dsimp only;rw[hv,ak,(QV hm).1,ak];refine .br (λ_=> .br (λ_=> .ip (EG k) (.get (tn hk) λz _ hz=> .ip (K0 hm z hz).1 (.get (by have:=K0 hm z hz;omega) λp _ _=> ?_))) (λh=>by cases h)) (λh=>by cases h);obtain⟨r,r1,r2,_,r4,_⟩:=ab8 b p.rack (by omega) hb.2;rw[r1,ak];exact .ret ⟨r,by rw[kT (by unfold maxLen;omega) hk],by omega,r2⟩
theorem ad0(i:Int):Tt T1 (OX l i):=by have h5:=SO hl hv;unfold OX;rw[hv,ak,FZ,ak];refine .br (λ_=> .br (λh=> ?_) λ_=> .ret trivial) λ_=> .ret trivial;have h:=Fj.1 h;exact .ip h.1 (.get (by omega) λ_ _ _=> .ip h.1 (.get (by omega) λ_ _ _=> .ret trivial))
theorem abC(r:List Int)(hr:r.length<=5){a b:Int}(ha:0<=a/\a<5)(hb:0<=b/\b<5):Tt T1 (N0 l r a b):=by
 have h5:=SO hl hv;have rm:r.length<=maxLen:=by unfold maxLen;omega
 unfold N0;refine .ip ha.1 (.get (by omega) λp _ _=> ?_);rw[(FI r p.rack rm).1,ak];refine .ip hb.1 (.get (by omega) λq _ _=> ?_);rw[(FI r q.rack rm).1,ak,Fg];exact .br (λ_=> .ip ha.1 (.get (by omega) λ_ _ _=> .ip hb.1 (.get (by omega) λ_ _ _=> .ret trivial))) λ_=> .ret trivial
theorem abr(m d:List Int)(hm:Oo m)(hd:d.length<=maxLen):Tt (λy=>y.1= -1\/(0<=y.1/\y.1<5/\y.1∉m)) (Lk l m d):=by
 have ml:m.length<=maxLen:=by have:=hm.len;unfold maxLen;omega
 unfold Lk;refine .bind (adz hl hv m hm) λr hr=> .bind (.count (B:=MB) (E:=λe=>e.1.1= -1\/(0<=e.1.1/\e.1.1<5/\e.1.1∉m)) 5 (λk (b:Int)=>((l,m,d,b,(),(k:Int),()),(),r.1,())) (λ_ b=>b= -1\/(0<=b/\b<5/\b∉m)) (λb hb=> .end (EI _) (.ret hb)) (λk b hk hb=> ?_) (-1) (.inl rfl)) λy hy=> .ret hy;have hkk:0<=(k:Int)/\(k:Int)<5:=⟨EG k,EH.2 hk⟩
 refine .go hkk.2 ?_;dsimp only;rw[(QV hm).1,ak,kT (n:=5) (by decide) hk];refine .br (λ_=> .bind (ad0 hl hv k) λy _=> ?_) (λh=>by cases h);rw[Fg,(FI m k ml).1,(FI d k hd).1];refine .br (λ_=> .br (λ_=> .ret ⟨b,rfl,hb⟩) λhn=> .br (λ_=> .ret ⟨b,rfl,hb⟩) λ_=> ?_) λ_=> .ret ⟨b,rfl,hb⟩;have hn: (k:Int)∉m:=of_decide_eq_false hn;refine .br (λ_=> .ret ⟨(k:Int),rfl,.inr ⟨hkk.1,hkk.2,hn⟩⟩) λh0=> ?_;have h0: ¬b<0:=of_decide_eq_false h0;exact .bind (abC hl hv r.1 hr hkk (by omega)) λ_ _=> .br (λ_=> .ret ⟨(k:Int),rfl,.inr ⟨hkk.1,hkk.2,hn⟩⟩) λ_=> .ret ⟨b,rfl,hb⟩
omit hv in
theorem adX(m a:List Int)(hm:Oo m)(ha:Oo a)(want:Int):Tt (λy=>Oo y.1) (KO l m a want):=by
 have am:a.length<=maxLen:=by have:=ha.len;unfold maxLen;omega
 obtain⟨v,v1,_⟩:=NH l hl;have nil:Oo [] :=λk hk=>by simp at hk
 unfold KO;rw[Sv m a hm am,Vh _ a YR am,ak,ak,v1,ak,Fg,(QV hm).1,(QV ha).1];refine .br (λe=> .br (λh=>by cases h) λ_=> .br (λh=>by cases h) λ_=> ?_) λ_=> .ret nil;subst e;rw[FZ,ak,Fg];refine .br (λ_=> ?_) λ_=> .ret nil;have dl:=(YR.filter λx=> !decide (x∈a)).len;have dm: (([0,1,2,3,4]:List Int).filter λx=> !decide (x∈a)).length<=maxLen:=by unfold maxLen;omega
 generalize ([0,1,2,3,4]:List Int).filter (λx=> !decide (x∈a))=dead at dm;refine .bind (.loop (B:=K2) (E:=Sum.elim (λe=>Oo e.2.2.1) λe=>Oo e.2.2.1) (λs=> ∃out:List Int,s=((l,want,(),(),()),(),out,dead,())/\Oo out) (λs=>(want-s.2.2.1.length).toNat) ?_ ⟨_,rfl,hm.filter _⟩) λy hy=> ?_
 ·rintro _ ⟨out,rfl,ho⟩
  have ol:=ho.len;refine .br (λc=> ?_) λ_=> .ret ho;have c: (out.length:Int)<want:=of_decide_eq_true c;refine .bind (abr hl v1 out dead ho dm) λn hn=> .br (λ_=> .ret ho) λh=> ?_;have h: ¬n.1<0:=of_decide_eq_false h
  obtain⟨n0,n5,nm⟩:0<=n.1/\n.1<5/\n.1∉out:=by
   rcases hn with h'|h'
   ·omega
   ·exact h'
  obtain⟨r,r1,r2,r3,_,r5⟩:=ab8 out n.1 (by omega) ho.pair;rw[show I2 _ _=_ from r1,ak];refine .ret ⟨⟨r,rfl,P9 r2 λy hy=>((r3 y).1 hy).elim (λe=>by rw[e];exact⟨n0,n5⟩) (K0 ho y)⟩,?_⟩;show (want-(r.length:Int)).toNat< (want-(out.length:Int)).toNat;have:=r5 nm;omega
 ·cases y with
  |inl y=>exact .ret hy
  |inr y=>exact .ret hy
end
theorem adb(x:qN)(ok:FF 1048576 x)(want wit:Int):Tt (λy=>GA 1048576 y.1) (Kv x want wit):=by
 have zero:GA 1048576 ⟨0,0,[],[]⟩:=⟨bH _,bH _⟩
 obtain⟨v,v1,_⟩:=FR x ok;unfold Kv;rw[v1,ak,Fg];refine .br (λe=> ?_) λ_=> .ret zero;subst e;have vc:=FJ ok v1;rw[FZ,ak,Fg];refine .br (λ_=> ?_) λ_=> .ret zero;rw[FZ,ak,Fg];refine .br (λ_=> .br (λ_=> .ret zero) λ_=> ?_) λ_=> .ret zero;obtain⟨c,b,c1,c2,c3⟩:=XX x ok;obtain⟨r5,w5,inr,_,_,rasc⟩:=c3 vc;have rm:c.replicas.length<=maxLen:=by unfold maxLen;omega
 rw[adI x ok v1,ak,c1,ak];have up:=YW (Wn x) (n:=5) (by omega);generalize RX (Wn x) 5=u at up;have um:u.length<=maxLen:=by have:=up.len;unfold maxLen;omega
 refine .bind (.count (B:=Lq) (E:=λe=> ∃have':List Int,Oo have'/\e=((want,wit,(),(),(),(),(),()),(fx x,(0,0,(),(),()),(c.epoch,c.primary,(),(),()),()),u,have',c.replicas,c.witnesses,())) c.replicas.length (λk (b:List Int)=>((want,wit,(),(),(),(),(),(k:Int),()),(fx x,(0,0,(),(),()),(c.epoch,c.primary,(),(),()),()),u,b,c.replicas,c.witnesses,())) (λk b=>b.Sublist (c.replicas.take k)) (λb hb=> .end (EI _) (.ret ⟨b,?_,rfl⟩)) (λk b hk hb=> ?_) [] (List.nil_sublist _)) ?_
 ·rw[EJ] at hb;exact P9 (rasc.pair.sublist hb) λy hy=>inr y (hb.subset hy)
 ·have sw:=kT rm hk;have st:b.Sublist (c.replicas.take (k+1)):=hb.trans (List.take_sublist_take_left (cM k));refine .go (EH.2 hk) (.ip ⟨EG k,EH.2 hk⟩ (.get (tn hk) λz _ hz=> ?_));rw[show F1 _ _=_ from (FI u z um).1,ak];refine .br (λ_=> .ip ⟨EG k,EH.2 hk⟩ (.get (tn hk) λz2 _ hz2=> .srv ok vc (inr z2 hz2) λs _ _ _=> .br (λ_=> .ip ⟨EG k,EH.2 hk⟩ (.get (tn hk) λz3 e3 _=> ?_)) λ_=> .ret ⟨b,by rw[sw],st⟩)) λ_=> .ret ⟨b,by rw[sw],st⟩;have e3:c.replicas[k]? =some z3:=e3
  have h2: (b++ [z3]).Sublist (c.replicas.take (k+1)):=by rw[EM,e3];exact hb.append (List.Sublist.refl _)
  have h3:=h2.length_le;rw[ci] at h3;exact .ip (by show (b++ [z3]).length*8<=2 ^ 40;omega) (.ret ⟨b++ [z3],by rw[sw],h2⟩)
 ·rintro _ ⟨hv,ha,rfl⟩
  refine .bind (adX (Fl ok.2.2.2) hv u ha up want) λp hp=> .br (λ_=> .ret zero) λh0=> ?_;have pl:=hp.len
  have p0:0<p.1.length:=by
   rcases bu p.1.length with h|h
   ·rw[h] at h0;cases h0
   ·exact h
  refine .ip ⟨c9 _,EH.2 p0⟩ (.get p0 λq _ _=> ?_);rw[show F1 _ _=_ from (FI p.1 c.primary (by unfold maxLen;omega)).1,ak];have fm: ∀w:List Int,w.length<=1-> ∀ (e p':Int) (d:Bool),Tt (λy:om×Bool×Unit=>GA 1048576 y.1) (some (⟨e,p',p.1,w⟩,d,())):=λw hw _ _ _=> .ret ⟨by show p.1.length<=_;omega,by show w.length<=_;omega⟩
  extract_lets j43
  have h43: ∀p',Tt (λy=>GA 1048576 y.1) (j43 p'):=λp'=>by unfold j43;refine .br (λ_=> ?_) λ_=>fm [] (by decide) _ _ _;rw[show Gm _ _=_ from Vh _ u YR um,ak];refine .bind (abr (Fl ok.2.2.2) vc.places p.1 _ hp ?_) λ_ _=> .br (λ_=>fm [_] (az 1) _ _ _) λ_=>fm [] (by decide) _ _ _;have:=(YR.filter λx=> !decide (x∈u)).len;exact ba this (by unfold maxLen;omega)
  refine .br (λ_=> ?_) λ_=>h43 _;rw[show JS _=_ from MN c c2,ak];exact .br (λ_=>h43 _) λ_=>h43 _
theorem abg(x:qN)(ok:FF 1048576 x)(id t:Int):Tt (λy=>Kp x y.1) (Kx x id t):=by obtain⟨n,n1,n2⟩:=XT x ok id;unfold Kx;rw[(GV x ok).1,ak,n1,ak,Fg];refine .br (λe=> ?_) λ_=> .ret (.self ok);obtain⟨hv,h0,h5⟩:=n2 (eq_of_beq e);have vc:=FJ ok hv;have s5:=Kn (Fl ok.2.1) vc.sides;refine .srv ok vc ⟨h0,h5⟩ λs _ s2 _=> ?_;obtain⟨b,b1,_⟩:=My s id s2;rw[b1,ak,Fg];refine .br (λ_=> .br (λ_=> .ret (.self ok)) λ_=> .ip h0 (.get (by omega) λ_ _ _=> ?_)) λ_=> .ret (.self ok);rw[Fg];refine .br (λ_=> ?_) λ_=> .ret (.self ok);rw[Fg];refine .br (λ_=> ?_) λ_=> .ret (.self ok);obtain⟨l,d,g1,_⟩:=X7 x.lease s.config.epoch id x.now t;rw[g1,ak,Fg];exact .br (λ_=> .ret ⟨ok,rfl⟩) λ_=> .ret (.self ok)
theorem ab9(x:qN)(ok:FF 1048576 x)(want term:Int):Tt (λy=>Kp x y.1) (KP x want term):=by unfold KP;rw[(GV x ok).1,ak];refine .bind (Nm x ok) λv _=> ?_;rw[Fg];refine .br (λ_=> ?_) λ_=> .ret (.self ok);rw[FZ,ak,Fg];refine .br (λ_=> .bind (YY x ok) λ_ _=> .br (λ_=> .ret (.self ok)) λ_=> .bind (adb x ok want 0) λn hn=> ?_) λ_=> .ret (.self ok);rw[Fg];refine .br (λ_=> .bind (Q3 x ok n.1 hn) λy hy=> ?_) λ_=> .ret (.self ok);rw[Fg];refine .br (λ_=> ?_) λ_=> .ret (.self ok);obtain⟨t,t1,_⟩:=XR x.lease;rw[t1,ak];refine .bind (adf y.1 hy.1 _) λz hz=> ?_;rw[Fg];refine .br (λ_=> .bind (Sw z.1 hz.1) λa ha=> ?_) λ_=> .ret (.self ok);rw[Fg];exact .br (λ_=> .bind (abg a.1 ha.1 _ _) λr hr=> .ret (hy.trans (hz.trans (ha.trans hr)))) λ_=> .ret (hy.trans (hz.trans ha))
theorem aee(x:qN)(ok:FF 1048576 x)(to:Int):Tt (λy=>y.1=0->VC x) (MT x to):=by obtain⟨c,b,c1,c2,c3⟩:=XX x ok;unfold MT;rw[c1,ak];refine .bind (Nm x ok) λv hv=> ?_;rw[Fg];refine .br (λh=> ?_) λ_=> .ret nofun;have vc:=hv h;have s5:=Kn (Fl ok.2.1) vc.sides;rw[Fg];refine .br (λhb=> ?_) λ_=> .ret nofun;obtain⟨r5,_,_,_,hp,_⟩:=c3 vc;have hp:=(hp hb).2;rw[(FI c.replicas to (by unfold maxLen;omega)).1,ak,Fg];refine .br (λ_=> .br (λ_=> .ret nofun) λ_=> ?_) λ_=> .ret nofun;rw[Fg];refine .br (λ_=> .br (λ_=> .ret nofun) λ_=> .br (λ_=> .ret nofun) λ_=> .bind (YY x ok) λ_ _=> ?_) λ_=> .ret nofun;rw[Fg];refine .br (λ_=> .ip hp.1 (.get (by show c.primary.toNat<x.sides.length;omega) λ_ _ _=> ?_)) λ_=> .ret nofun;rw[Fg];refine .br (λ_=> .br (λ_=> ?_) λ_=> .ret λ_=>vc) λ_=> .ret nofun;rw[Fg];exact .br (λ_=> .ret λ_=>vc) λ_=> .ret nofun
theorem acj(x:qN)(ok:FF 1048576 x)(to:Int):Tt (λy=>Kp x y.1) (JH x to):=by
 obtain⟨c,b,c1,c2,c3⟩:=XX x ok;unfold JH;rw[(GV x ok).1,ak];refine .bind (aee x ok to) λn hn=> ?_;rw[Fg];refine .br (λh=> ?_) λ_=> .ret (.self ok);obtain⟨r5,w5,_⟩:=c3 (hn (eq_of_beq h));rw[c1,ak];refine .bind (YS x ok c.primary) λy hy=> ?_;have hy':Kp x ⟨y.1.now,y.1.servers,y.1.sides,y.1.master,y.1.masterUp,⟨0,0,0⟩,y.1.places⟩:=⟨hy.1,hy.2⟩
 exact .bind (Q3 _ hy'.1 ⟨_,to,c.replicas,c.witnesses⟩ ⟨by show c.replicas.length<=_;omega,by show c.witnesses.length<=_;omega⟩) λz hz=> .bind (Sw z.1 hz.1) λw hw=> .ret (hy'.trans (hz.trans hw))
end
section
theorem Tt.byte{α:Type}{Q:α->Prop}{b:ByteArray}{i:Nat}{k:UInt8->Option α}(hi:i<b.size)(h: ∀x,Tt Q (k x)):Tt Q ((b[i]?).bind k):=by rw[getElem?_pos b i hi];exact h _
theorem U1(b:Int): (Cu ((([b]:List Int).drop 0).take ([b]:List Int).length)).size=1:=rfl
theorem Jw(n:Int)(h:n.natAbs<=1000):Tt (λy=>y.1.size<=1001) (Hk n):=by
 unfold Hk;refine .br (λ_=> .ret (by decide)) λ_=> .bind (.loop (B:=Mz) (E:=λe=>e.1.1.size<=1000) (λs=>s.1.2.1.size+s.1.1.natAbs<=1000) (λs=>s.1.1.natAbs) ?_ (by simpa using h)) λy hy=> .br (λ_=> .ip ?_ (.ret ?_)) λ_=> .ret (ba hy (by omega))
 ·rintro⟨⟨n,acc,neg,_⟩,_,_⟩ hs
  have hs:acc.size+n.natAbs<=1000:=hs;refine .br (λh0=> ?_) λ_=> .ret (by show acc.size<=1000;omega);have h0:n≠0:=λe=>by rw[e] at h0;cases h0
  have ha: (Int.tdiv n 10).natAbs=n.natAbs / 10:=Int.natAbs_tdiv n 10;have hw:IntKind.wrap .i64 (Int.tdiv n 10)=Int.tdiv n 10:=of (by omega) (by omega);dsimp only;rw[hw];refine .br (λ_=> .ip ⟨Nat.one_pos,az _⟩ (.ip (by rw[U1];omega) (.ret ⟨?_,?_⟩))) λ_=> .ip ⟨Nat.one_pos,az _⟩ (.ip (by rw[U1];omega) (.ret ⟨?_,?_⟩))
  all_goals first
   | (show (_++acc).size+(Int.tdiv n 10).natAbs<=1000;rw[ByteArray.size_append,U1];omega)
   | (show (Int.tdiv n 10).natAbs<n.natAbs;omega)
 ·show (⟨⟨[45]⟩⟩:ByteArray).size+y.1.1.size<=2 ^ 40;have : (⟨⟨[45]⟩⟩:ByteArray).size=1:=rfl;omega
 ·show ((⟨⟨[45]⟩⟩:ByteArray)++y.1.1).size<=1001;have : (⟨⟨[45]⟩⟩:ByteArray).size=1:=rfl;rw[ByteArray.size_append];omega
theorem adx{o:Op}(h:opB o=true): (0<=o.client/\o.client<=2)/\(1<=o.seq/\o.seq<=99)/\(0<=o.object/\o.object<=2)/\(0<=o.value/\o.value<=9)/\(o.kind≠1->0<=o.old/\o.old<=9):=by
 obtain⟨h1,h2,h4⟩:=ady h;have h3:=Zl (show F2 o=some (true,()) by rw[PR,h]);refine⟨Fj.1 h1,Fj.1 h2,h3,Fj.1 h4,λhk=> ?_⟩;have h0:F2 o=some (true,()):=by rw[PR,h]
 unfold F2 at h0;simp only[FZ,ak,h1,h2,h4,Fj.2 h3,dk,CU,beq_eq_false_iff_ne.2 hk] at h0;cases hk2: (o.kind==2) with
 |false=>rw[hk2] at h0;cases h0
 |true=>rw[hk2] at h0;simp only[DE,af,au,and_true] at h0;exact Fj.1 h0
theorem Zy(o:Op):Tt (λy=>y.1.size<=10000) (NS o):=by
 unfold NS;rw[PR,ak,Fg];refine .br (λh=> ?_) λ_=> .ret (by decide);obtain⟨n1,n2,n3,n4,n5⟩:=adx h;have e1: (⟨⟨[46]⟩⟩:ByteArray).size=1:=rfl;have e2: (⟨⟨[32]⟩⟩:ByteArray).size=1:=rfl;have e3: (⟨⟨[119,114,105,116,101,32]⟩⟩:ByteArray).size=6:=rfl;have e4: (⟨⟨[115,119,97,112,32]⟩⟩:ByteArray).size=5:=rfl;refine .bind (Jw _ (by omega)) λa ha=> .ip (by omega) (.bind (Jw _ (by omega)) λb hb=> .ip (by rw[ByteArray.size_append];omega) (.ip (by simp only[ByteArray.size_append];omega) (.br (λ_=> .ip (by simp only[ByteArray.size_append];omega) (.bind (Jw _ (by omega)) λc hc=> .ip (by simp only[ByteArray.size_append];omega) (.ip (by simp only[ByteArray.size_append];omega) (.bind (Jw _ (by omega)) λd hd=> .ip (by simp only[ByteArray.size_append];omega) (.ret ?_))))) λhk=> ?_)))
 ·show ByteArray.size _<=_;simp only[ByteArray.size_append];omega
 ·have n5:=n5 λe=>by rw[e] at hk;cases hk
  refine .ip (by simp only[ByteArray.size_append];omega) (.bind (Jw _ (by omega)) λc hc=> .ip (by simp only[ByteArray.size_append];omega) (.ip (by simp only[ByteArray.size_append];omega) (.bind (Jw _ (by omega)) λd hd=> .ip (by simp only[ByteArray.size_append];omega) (.ip (by simp only[ByteArray.size_append];omega) (.bind (Jw _ (by omega)) λe he=> .ip (by simp only[ByteArray.size_append];omega) (.ret ?_))))));show ByteArray.size _<=_;simp only[ByteArray.size_append];omega
theorem X6(l:List sf)(hl:l.length<=maxLen):Tt (λy=>y.1.size<=1000000) (MR l):=by
 obtain⟨b,b1,b2⟩:=Qj hl;unfold MR;rw[b1,ak,Fg];refine .br (λe=> ?_) λ_=> .ret (by decide);have h16:=b2 e;subst e;have hlog:=((O3 l hl).1 b1).2;refine .br (λ_=> .ret (by decide)) λ_=> .bind (.count (B:=MA) (E:=λe=>e.1.1.size<=1000000) l.length (λk (b:ByteArray)=>((l,b,(k:Int),()),(),())) (λk b=>b.size<=k*20000) (λb hb=> .end (EI _) (.ret (by show b.size<=_;omega))) (λk b hk hb=> ?_) ByteArray.empty (bH _)) λy hy=> .ret hy;have sw:=kT hl hk;have e1: (⟨⟨[58]⟩⟩:ByteArray).size=1:=rfl;have e2: (⟨⟨[59]⟩⟩:ByteArray).size=1:=rfl;have hb:b.size<=k*20000:=hb;have hk2:k*20000<=16*20000:=bg _ (by omega);refine .go (EH.2 hk) (.br (λ_=> .ip (by rw[e2];show b.size+1<=_;omega) (.ip (EG k) (.get (tn hk) λe he _=> .bind (Jw _ ?_) λy hy=> ?_))) λ_=> .ip (EG k) (.get (tn hk) λe he _=> .bind (Jw _ ?_) λy hy=> ?_))
 case refine_1|refine_3=>have:=hlog k hk;unfold ZN at this;rw[show l[k]? =some e from he] at this;simp only[ao] at this;have:=Fj.1 this.1;omega
 all_goals
  dsimp only;rw[sw];refine .ip (by first |omega| (simp only[ByteArray.size_append];omega)) (.ip (by simp only[ByteArray.size_append];omega) (.ip (EG k) (.get (tn hk) λe2 _ _=> .bind (Zy e2.op) λz hz=> .ip (by simp only[ByteArray.size_append];omega) (.ret ⟨_,rfl,?_⟩))));simp only[ByteArray.size_append];omega
theorem Zu(b:ByteArray)(hb:b.size<=1000000):Tt T1 (NQ b):=by unfold NQ;exact .bind (.count (B:=Nu) (E:=λ_=>True) b.size (λk (n:Int)=>((b,n,(k:Int),()),(),())) (λ_ _=>True) (λ_ _=> .end (EI _) (.ret trivial)) (λk n hk _=> .go (EH.2 hk) (.ip (EG k) (.byte hk λx=> .ret ⟨_,by rw[kT (n:=b.size) (by unfold maxLen;omega) hk],trivial⟩))) 5 trivial) λ_ _=> .ret trivial
theorem aaf(l:List sf)(hl:l.length<=maxLen):Tt (λy=>y.1.length<=l.length+1/\y.1.length<=17) (Lx l):=by
 obtain⟨b,b1,b2⟩:=Qj hl;unfold Lx;rw[b1,ak,Fg];refine .br (λe=> ?_) λ_=> .ret ⟨bH _,bH _⟩;have h16:=b2 e;refine .ip (by simp) (.bind (.count (B:=Lo) (E:=λe=>e.2.2.1.length<=l.length+1/\e.2.2.1.length<=17) l.length (λk (b:Int×List Int)=>((l,(),b.1,(k:Int),()),(),b.2,())) (λk b=>b.2.length=k+1) (λb hb=> .end (EI _) (.ret (by show b.2.length<=_/\b.2.length<=_;omega))) (λk b hk hb=> ?_) (11,[11]) rfl) λy hy=> .ret hy);have sw:=kT hl hk;refine .go (EH.2 hk) ?_;dsimp only;rw[sw];refine .ip ⟨EG k,by omega,Int.ofNat_le.2 hk⟩ (.bind (X6 _ (ba (by rw[ci,bR];omega) hl)) λy hy=> .bind (Zu y.1 hy) λz _=> .ip ?_ (.ret ⟨(_,_),rfl,?_⟩))
 ·rw[be,cn,hb];omega
 ·rw[be,cn,hb]
theorem YV(l:List sf)(k:Int)(hl:l.length<=maxLen):Tt (λy=>y.1≠ -1->0<=k/\k<=(l.length:Int)) (Me l k):=by unfold Me;refine .bind (aaf l hl) λy hy=> ?_;rw[of (n:=(y.1.length:Int)-1) (by omega) (by omega),FZ,ak,Fg];refine .br (λh=> ?_) λ_=> .ret λh=>absurd rfl h;have h:=Fj.1 h;exact .ip (by omega) (.get (by omega) λ_ _ _=> .ret λ_=>by omega)
theorem adC(x:qN)(ok:FF 1048576 x)(a b:Int):Tt (λy=>y.1=true->VC x/\(0<=a/\a<5)/\(0<=b/\b<5)) (MY x a b):=by
 unfold MY;refine .bind (Nm x ok) λv hv=> ?_;rw[Fg];refine .br (λh=> ?_) λ_=> .ret nofun;have vc:=hv h;have h5:=Kn (Fl ok.2.1) vc.sides
 have side:Tt (λy:Bool×Unit=>y.1=true->(0<=a/\a<5)/\(0<=b/\b<5)) (GN x.sides a b):=by unfold GN;simp only[vc.sides,FZ,ak,DE];refine .br (λha=> .br (λhb=> ?_) λ_=> .ret nofun) λ_=> .ret nofun;have ha:=Fj.1 ha;have hb:=Fj.1 hb;exact .ip ha.1 (.get (by omega) λ_ _ _=> .ip hb.1 (.get (by omega) λ_ _ _=> .ret λ_=>by omega))
 refine .bind side λy hy=> ?_;rw[Fg];refine .br (λh=> ?_) λ_=> .ret nofun;obtain⟨ha,hb⟩:=hy h;refine .br (λ_=> .ret nofun) λ_=> .srv ok vc ha λs _ s2 _=> ?_;obtain⟨n,n1,_⟩:=OT s.config a (Fr s2.1);obtain⟨m,m1,_⟩:=OT s.config b (Fr s2.1);rw[n1,ak,m1];have good: ∀d:Bool,Tt (λy:Bool×Unit=>y.1=true->VC x/\(0<=a/\a<5)/\(0<=b/\b<5)) (some (d,())):=λd=> .ret λ_=>⟨vc,ha,hb⟩
 exact .br (λ_=> .srv ok vc hb λ_ _ _ _=> .br (λ_=> .br (λ_=> .br (λ_=>good _) λ_=>good _) λ_=> .br (λ_=> .br (λ_=>good _) λ_=>good _) λ_=>good _) λ_=>good _) λ_=>good _
theorem adT(x:qN)(ok:FF 1048576 x)(a b:Int):Tt (λy=>0<=y.1->VC x/\(0<=a/\a<5)/\(0<=b/\b<5)/\ ∃s l,x.servers[a.toNat]? =some s/\FM s=some (l,())/\l.length<=16/\y.1<=(l.length:Int)) (KK x a b):=by
 unfold KK;refine .bind (adC x ok a b) λv hv=> ?_;rw[Fg];refine .br (λh=> ?_) λ_=> .ret λh=>absurd h (by decide);obtain⟨vc,ha,hb⟩:=hv h;refine .srv ok vc ha λs s1 s2 s3=> ?_;obtain⟨⟨l,_⟩,l1,l2⟩:=Ru s s2 (W6 s2 s3);have l2:l.length<=16:=l2;rw[l1,ak];refine .srv ok vc hb λt _ t2 _=> .srv ok vc hb λu _ u2 _=> .bind (Q:=T1) ?_ λd _=> .bind (Q:=λy=>y.1=true->(t.learned.length:Int)<=(l.length:Int)) ?_ λp hp=> ?_
 ·unfold K3;exact .bind (YV _ _ (Fl u2.2.2)) λ_ _=> .ret trivial
 ·unfold LD;refine .br (λhd=> .bind (YV l _ (by unfold maxLen;omega)) λy hy=> .ret λe=> ?_) λ_=> .ret nofun;have hd:d.1≥0:=of_decide_eq_true hd;have e:=eq_of_beq e;exact (hy (by omega)).2
 ·have tl:=t2.2.2;rw[Fg];refine .br (λe=> .ret λ_=>⟨vc,ha,hb,s,l,s1,l1,l2,?_⟩) λ_=> .ret λ_=>⟨vc,ha,hb,s,l,s1,l1,l2,?_⟩
  ·have:=hp e;show IntKind.wrap .i64 ((l.length:Int)-(t.learned.length:Int))<=_;rw[of (by omega) (by omega)];omega
  ·show IntKind.wrap .i64 ((l.length:Int)-0)<=_;rw[of (by omega) (by omega)];omega
theorem adk(x:qN)(ok:FF 1048576 x)(a b n:Int):Tt (λy=>Kp x y.1) (KL x a b n):=by
 unfold KL;rw[(GV x ok).1,ak];refine .bind (adT x ok a b) λy hy=> .br (λ_=> .ret (.self ok)) λh=> ?_;have h: ¬y.1<0:=of_decide_eq_false h;obtain⟨vc,ha,hb,s,l,s1,l1,l2,le⟩:=hy (by omega);rw[FZ,ak,Fg];refine .br (λw=> .ip ha.1 ?_) λ_=> .ret (.self ok);have w:=Fj.1 w;rw[s1,ak,l1,ak];dsimp only;have hm: (if n<y.1 then n else y.1)<=y.1/\0<=(if n<y.1 then n else y.1):=by split<;>omega
 generalize (if n<y.1 then n else y.1)=m at hm;rw[of (n:=(l.length:Int)-y.1) (by omega) (by omega),of (n:=(l.length:Int)-y.1+m) (by omega) (by omega)]
 have hl: ((l.drop (0+(0:Int).toNat)).take (((l.length:Int)-y.1+m).toNat-(0:Int).toNat)).length<=1048576:=by rw[ci,bR];omega
 refine .ip (by omega) (.ip (by omega) ?_);rw[RN hl,ak];exact .at vc.len hb λu _ hu=> .ret ((Kp.self ok).set (s:=⟨u.up,u.intact,u.version,u.epoch,u.config,u.first,u.log,u.commit,(l.drop (0+(0:Int).toNat)).take (((l.length:Int)-y.1+m).toNat-(0:Int).toNat)⟩) ⟨(ok.1.2 u hu).1,(ok.1.2 u hu).2.1,hl⟩ _)
theorem aav{x y:qN}{n:Int}{r:Option (qN×Int×Unit)}(h:r=some (y,n,())/\FF 1048576 y/\y.servers.length=x.servers.length):Tt (λz=>Kp x z.1) r:=⟨_,h.1,h.2⟩
theorem ad4(x:qN)(ok:FF 1048576 x)(e:xx):Tt (λy=>Kp x y.1) (O1 x e):=by obtain⟨_,_,c1⟩:=adl x ok e.server;obtain⟨_,_,c2⟩:=abh x ok e.server;obtain⟨_,_,c3⟩:=adU x ok e.server;obtain⟨_,_,c4⟩:=adV x ok e.server e.n;obtain⟨_,_,c5⟩:=aa9 x ok e.n;unfold O1;refine .br (λ_=> .bind (abg x ok _ _) λy hy=> .ret hy) λ_=> .br (λ_=> .bind (adb x ok _ _) λn hn=> ?_) λ_=> .br (λ_=> .bind (Sw x ok) λy hy=> .ret hy) λ_=> .br (λ_=> .bind (aav c1) λy hy=> .ret hy) λ_=> .br (λ_=> .bind (aav c2) λy hy=> .ret hy) λ_=> .br (λ_=> .bind (aav c3) λy hy=> .ret hy) λ_=> .br (λ_=> .bind (aav c4) λy hy=> .ret hy) λ_=> .br (λ_=> .bind (aav c5) λy hy=> .ret hy) λ_=> .br (λ_=> .bind (adf x ok _) λy hy=> .ret hy) λ_=> .br (λ_=> .bind (adk x ok _ _ _) λy hy=> .br (λ_=> .ret hy) λ_=> .ret hy) λ_=> .br (λ_=> .bind (abx x ok _) λy hy=> .ret hy) λ_=> .br (λ_=> .bind (X4 x ok _) λy hy=> .ret hy) λ_=> .br (λ_=> .bind (acj x ok _) λy hy=> .ret hy) λ_=> .bind (ab9 x ok _ _) λy hy=> .ret hy;rw[Fg];refine .br (λ_=> .bind (Q3 x ok _ hn) λy hy=> .ret hy) λ_=> ?_;rw[(GV x ok).1];exact .ret (.self ok)
theorem ad6(k:Int):Tt T1 (O2 k):=by
 unfold O2
 repeat first |exact .ret trivial|refine .br (λ_=> ?_) λ_=> ?_
theorem aby(e:xx):Tt T1 (J8 e):=by
 unfold J8;simp only[FZ,ak,PR];refine .br (λ_=> .ret trivial) λ_=> .br (λ_=> .ret trivial) λ_=> .br (λ_=> .ret trivial) λ_=> .br (λ_=> .ret trivial) λ_=> .bind (ad6 _) λ_ _=> ?_
 repeat first |exact .ret trivial|refine .br (λ_=> ?_) λ_=> ?_
theorem Z0(x:qN)(ok:FF 1048576 x)(e:xx):Tt (λy=>Kp x y.1) (NV x e):=by unfold NV;rw[(GV x ok).1];refine .bind (Nm x ok) λ_ _=> .br (λ_=> .ret (Kp.self ok)) λ_=> .bind (aby e) λ_ _=> .br (λ_=> .ret (Kp.self ok)) λ_=> .br (λ_=> .bind (abE x ok _ _) λy hy=> .ret hy) λ_=> .br (λ_=> ?_) λ_=> .bind (ad4 x ok e) λy hy=> .ret hy;exact .bind (Q:=λy=>Kp x y.1) ⟨_,rfl,Kp.self ok⟩ λy hy=> .bind (Yu x ok _ _) λ_ _=> .ret hy
theorem YN(x:qN)(ok:FF 1048576 x)(l:List xx)(hl:l.length<=1048576):Tt (λy=>Kp x y.1/\y.2.1.length<=l.length) (MU x l):=by
 have lm:=Fl hl;unfold MU;rw[(GV x ok).1,ak];refine .bind (.count (B:=MD) (E:=λe=> ∃ (c:qN) (r:List xB),Kp x c/\r.length<=l.length/\e=(((),(),(),()),(fz,fc c,()),r,c.servers,c.sides,c.master.configs,c.places,())) l.length (λk (b:qN×List xB)=>((l,(),(),(),(k:Int),()),(fz,fc b.1,()),b.2,b.1.servers,b.1.sides,b.1.master.configs,b.1.places,())) (λk b=>Kp x b.1/\b.2.length<=k) (λb hb=> .end (EI _) (.ret ⟨b.1,b.2,hb.1,hb.2,rfl⟩)) (λk b hk hb=> .go (EH.2 hk) (.br (λ_=> .ip (EG k) (.get (tn hk) λe _ _=> .bind (Z0 b.1 hb.1.1 e) λy hy=> .ip ?_ (.ret ⟨(y.1,b.2++ [y.2.1]),by rw[kT lm hk],hb.1.trans hy,?_⟩))) λ_=> .ret ⟨b.1,b.2,hb.1,by omega,rfl⟩)) (x,[]) ⟨.self ok,az _⟩) ?_
 ·show (b.2++ [y.2.1]).length*32<=2 ^ 40;rw[be,cn];omega
 ·rw[be,cn];omega
 ·rintro _ ⟨c,r,hc,hr,rfl⟩
  exact .ret ⟨hc,hr⟩
end
section
section
variable [dL]
theorem Tt.dn{α β:Type}{Q:α->Prop}{Q':β->Prop}{r:Option (List qO×α)}{k:List qO×α->Option β}(h:Dn Q r)(hk: ∀c a,Gh c->Q a->Tt Q' (k ([c],a))):Tt Q' (r.bind k):=by obtain⟨c,a,rfl,h1,h2⟩:=h;exact hk c a h1 h2
theorem Dn.tt{α β:Type}{Q:α->Prop}{Q':β->Prop}{r:Option α}{k:α->Option (List qO×β)}(h:Tt Q r)(hk: ∀a,Q a->Dn Q' (k a)):Dn Q' (r.bind k):=by obtain⟨a,rfl,h⟩:=h;exact hk a h
theorem aag{α:Type}{Q:α->Prop}{r:Option (List qO×α)}(h:Tt (λy=> ∃c,y.1= [c] /\Gh c/\Q y.2) r):Dn Q r:=by obtain⟨⟨_,a⟩,rfl,c,rfl,h1,h2⟩:=h;exact⟨c,a,rfl,h1,h2⟩
theorem abo{c:qO}(h:Gh c):Dn (λy:List Int×Unit=>Oo y.1) (MZ [c]):=by
 refine aag ?_;unfold MZ;refine .bind (.count (B:=PC) (E:=λe=> ∃c,e.2.2.1= [c] /\Gh c/\Oo e.2.2.2.1) 5 (λk (b:qO×List Int)=>(((),(),(k:Int),()),(),[b.1],b.2,())) (λk b=>Gh b.1/\b.2.length<=k/\SS b.2/\ ∀y∈b.2,0<=y/\y< (k:Int)) (λb hb=> .end (EI _) (.ret ⟨b.1,rfl,hb.1,P9 hb.2.2.1 hb.2.2.2⟩)) (λk b hk hb=> ?_) (c,[]) ⟨h,az _,List.Pairwise.nil,nofun⟩) λy hy=> .ret hy;obtain⟨h1,h2,h3,h4⟩:=hb;have sw:=kT (n:=5) (by decide) hk;have stay: ∀y∈b.2,0<=y/\y< ((k+1:Nat):Int):=λy hy=>by have:=h4 y hy;omega
 refine .go (show (k:Int)<5 by omega) (.dn (IR h1 2) λc1 _ hc _=> .ip rfl (.br (λ_=> .ip (by show (b.2++ [(k:Int)]).length*8<=2 ^ 40;rw[be,cn];omega) (.ret ⟨(c1,b.2++ [(k:Int)]),by rw[sw],hc,by rw[be,cn];omega,?_,λy hy=> ?_⟩)) λ_=> .ret ⟨(c1,b.2),by rw[sw],hc,EN h2,h3,stay⟩))
 ·exact ES.2 ⟨h3,EX _ _,λy hy z hz=>by rw[aJ.1 hz];exact (h4 y hy).2⟩
 ·rcases bi.1 hy with hy|hy
  ·exact stay y hy
  ·rw[aJ.1 hy];omega
omit [dL] in
theorem abf{l:List vB}(h5:l.length=5)(h: ∀p∈l,(0<=p.rack/\p.rack<=9)/\(0<=p.capacity/\p.capacity<=9)/\0<=p.load/\p.load<=99):F0 l=some (true,()):=by
 have lm:l.length<=maxLen:=by unfold maxLen;omega
 have fm:Tt (λy:Bool×Unit=>y.1=true) (F0 l):=by
  unfold F0;refine .bind (.count (B:=IT) (E:=Sum.elim (λ_=>False) λe=>e.1.1=l) l.length (λk (_:Unit)=>((l,(k:Int),()),(),())) (λ_ _=>True) (λ_ _=> .end (EI _) (.ret rfl)) (λk _ hk _=> .go (EH.2 hk) (.ip (EG k) (.get (tn hk) λp _ hp=> ?_))) () trivial) λy hy=> ?_
  ·obtain⟨h1,_⟩:=h p hp;rw[FZ,Fj.2 h1,ak];refine .br (λh=>by cases h) λ_=> .ip (EG k) (.get (tn hk) λq _ hq=> ?_);obtain⟨_,h2,_⟩:=h q hq;rw[FZ,Fj.2 h2,ak];refine .br (λh=>by cases h) λ_=> .ip (EG k) (.get (tn hk) λr _ hr=> ?_);obtain⟨_,_,h3⟩:=h r hr;rw[FZ,Fj.2 h3,ak];exact .br (λh=>by cases h) λ_=> .ret ⟨(),by rw[kT lm hk],trivial⟩
  ·cases y with
   |inl y=>exact hy.elim
   |inr y=>refine .ret ?_;show ((y.1.1.length:Int)==5)=true;rw[show y.1.1=l from hy,h5];rfl
 obtain⟨⟨b,_⟩,e,rfl⟩:=fm;exact e
theorem Zm{c:qO}(h:Gh c):Dn (λy:List vB×Unit=>y.1.length=5/\F0 y.1=some (true,())) (Mj [c]):=by
 refine aag ?_;unfold Mj;refine .bind (.count (B:=Nv) (E:=λe=> ∃c,e.2.2.1= [c] /\Gh c/\e.2.2.2.1.length=5/\F0 e.2.2.2.1=some (true,())) 5 (λk (b:qO×List vB)=>(((),(),(k:Int),()),(),[b.1],b.2,())) (λk b=>Gh b.1/\b.2.length=k/\ ∀p∈b.2,(0<=p.rack/\p.rack<=9)/\(0<=p.capacity/\p.capacity<=9)/\0<=p.load/\p.load<=99) (λb hb=> .end (EI _) (.ret ⟨b.1,rfl,hb.1,hb.2.1,abf hb.2.1 hb.2.2⟩)) (λk b hk hb=> ?_) (c,[]) ⟨h,rfl,nofun⟩) λy hy=> .ret hy;obtain⟨h1,h2,h3⟩:=hb;refine .go (show (k:Int)<5 by omega) (.dn (K8 h1 (n:=4) (by omega)) λc1 x g1 hx=> .ip rfl (.dn (K8 g1 (n:=4) (by omega)) λc2 y g2 hy=> .ip rfl (.dn (K8 g2 (n:=4) (by omega)) λc3 z g3 hz=> .ip rfl (.ip ?_ (.ret ⟨(c3,b.2++ [⟨x.1,1+y.1,z.1⟩]),?_,g3,by rw[be,cn,h2],λp hp=> ?_⟩)))))
 ·rw[be,cn,show List.length _=k from h2];omega
 ·dsimp only;rw[kT (n:=5) (by decide) hk,of (n:=1+y.1) (by omega) (by omega)]
 ·rcases bi.1 hp with hp|hp
  ·exact h3 p hp
  ·rw[aJ.1 hp];show (0<=x.1/\x.1<=9)/\(0<=1+y.1/\1+y.1<=9)/\0<=z.1/\z.1<=99;omega
omit [dL] in
theorem Zk(v:Int):Tt (λy=>FN 1048576 y.1) (Lj v):=by
 unfold Lj;rw[FZ,ak];have ok: ∀v:Int,FN 1048576 ⟨true,true,v,0,⟨0,0,[],[]⟩,0,[],0,[]⟩:=λ_=>⟨⟨bH _,bH _⟩,bH _,bH _⟩
 exact .br (λ_=> .ret (ok _)) λ_=> .ret (ok _)
omit [dL] in
theorem adv(l:List vB)(hl:l.length<=1048576):Tt (λy=>FF 1048576 y.1/\(F0 l=some (true,())->y.1.servers.length=5)) (LC l):=by
 obtain⟨v,v1,_⟩:=NH l (Fl hl);unfold LC;rw[v1,ak,Fg];refine .br (λe=> .ip (by decide) (.ip ?_ (.bind (.count (B:=Lp) (E:=λe=> ∃S:List qQ,S.length=5/\(∀s∈S,FN 1048576 s)/\e=(((),(),()),(fz,(0,(),(),(),0,3,0,0,0,(),()),()),S,List.replicate (5:Int).toNat (0:Int),[] ++l,())) 5 (λk (S:List qQ)=>(((),(),(k:Int),()),(fz,(0,(),(),(),0,3,0,0,0,(),()),()),S,List.replicate (5:Int).toNat (0:Int),[] ++l,())) (λk S=>S.length=k/\ ∀s∈S,FN 1048576 s) (λS hS=> .end (EI _) (.ret ⟨S,hS.1,hS.2,rfl⟩)) (λk S hk hS=> .go (show (k:Int)<5 by omega) (.bind (Zk 1) λs hs=> .ip ?_ (.ret ⟨S++ [s.1],by rw[kT (n:=5) (by decide) hk],by rw[be,cn,hS.1],λt ht=> ?_⟩))) [] ⟨rfl,nofun⟩) ?_))) λ_=> .ret ⟨⟨⟨bH _,nofun⟩,bH _,⟨bH _,nofun⟩,bH _⟩,λe=>by simp_all⟩
 ·rw[bK];omega
 ·rw[be,cn,show List.length _=k from hS.1];omega
 ·exact (bi.1 ht).elim (hS.2 t) λe=>by rw[aJ.1 e];exact hs
 ·rintro _ ⟨S,h5,hS,rfl⟩
  exact .ret ⟨⟨⟨by show S.length<=_;omega,hS⟩,by show (List.replicate (5:Int).toNat (0:Int)).length<=_;decide,⟨bH _,nofun⟩,hl⟩,λ_=>h5⟩
omit [dL] in
theorem aab{e p:Int}{R W:List Int}(he:1<=e/\e<=20)(hR:Oo R)(hW:Oo W)(hp:p∈R)(hd: ∀y∈R,y∉W):Fk ⟨e,p,R,W⟩=some (true,()):=by have hr:=hR.len;have hw:=hW.len;unfold Fk;simp only[FZ,Fj.2 he,ak,DE,(QV hR).1,(QV hW).1,(FI R p (by unfold maxLen;omega)).1,decide_eq_true hp,Sv R W hR (by unfold maxLen;omega)];rw[List.filter_eq_nil_iff.2 λy hy h=>hd y hy (of_decide_eq_true h)];rfl
theorem abD{c:qO}(h:Gh c)(e:Int):Dn (λy:om×Unit=>y.1.epoch=e/\y.1.replicas.length<=5/\y.1.witnesses.length<=5/\(1<=e/\e<=20->Fk y.1=some (true,()))) (Kd [c] e):=by
 unfold Kd;refine .bind (K8 h (n:=5) (by omega)) λc1 p h1 hp=> .iteP rfl (.bind (abo h1) λc2 l h2 hl=> .iteP rfl ?_);obtain⟨r,r1,r2,r3,_⟩:=ab8 l.1 p.1 (by have:=hl.len;omega) hl.pair;rw[show I2 _ _=_ from r1,ak]
 have fm: ∀R:List Int,Oo R->p.1∈R->Dn (λy:om×Unit=>y.1.epoch=e/\y.1.replicas.length<=5/\y.1.witnesses.length<=5/\(1<=e/\e<=20->Fk y.1=some (true,()))) ((Gz [c2] 2).bind λy5=>iteP (y5.1.length=([c2]:List qO).length) (br y5.2.1 ((MZ y5.1).bind λy6=>iteP (y6.1.length=y5.1.length) ((Gm y6.2.1 R).bind λy7=>br (decide ((y7.1.length:Int)>0)) (iteP (0<=(0:Int)/\(0:Int)<=(1:Int)/\(1:Int)<=((y7.1.length:Nat):Int)) (iteP ((0+(0:Int).toNat)=0/\((1:Int).toNat-(0:Int).toNat)<=y7.1.length) (some (y6.1,(⟨e,p.1,R,(y7.1.take ((1:Int).toNat-(0:Int).toNat))⟩:om),())) (iteP ((0+(0:Int).toNat)+((1:Int).toNat-(0:Int).toNat)<=y7.1.length) (some (y6.1,(⟨e,p.1,R,((y7.1.drop (0+(0:Int).toNat)).take ((1:Int).toNat-(0:Int).toNat))⟩:om),())) none)) none) (some (y6.1,(⟨e,p.1,R,([]:List Int)⟩:om),()))) none) (some (y5.1,(⟨e,p.1,R,([]:List Int)⟩:om),()))) none):=λR hR hpR=>by
  have nil:Oo [] :=λk hk=>by simp at hk
  have rl:=hR.len;refine .bind (IR h2 2) λc3 _ h3 _=> .iteP rfl (.br (λ_=> .bind (abo h3) λc4 w h4 hw=> .iteP rfl ?_) λ_=> .ret h3 ⟨rfl,rl,bH _,λhe=>aab he hR nil hpR λ_ _=>nofun⟩);rw[show Gm _ _=_ from Vh w.1 R hw (by unfold maxLen;omega),ak];have hf:=hw.filter λx=> !decide (x∈R)
  have hn: ∀y∈R,y∉w.1.filter λx=> !decide (x∈R):=λy hy h=>by have:=(EZ.1 h).2;simp[hy] at this
  have fl:=hf.len;generalize w.1.filter (λx=> !decide (x∈R))=f at hf hn fl;refine .br (λhpos=> ?_) λ_=> .ret h4 ⟨rfl,rl,bH _,λhe=>aab he hR nil hpR λ_ _=>nofun⟩;have hpos: (f.length:Int)>0:=of_decide_eq_true hpos;refine .iteP (by show (0:Int)<=0/\(0:Int)<=1/\(1:Int)<=(f.length:Int);omega) (.iteP (by show 0=0/\1<=f.length;omega) (.ret h4 ⟨rfl,rl,?_,λhe=>aab he hR ?_ hpR λy hy h=>hn y hy (bJ h)⟩))
  ·show (f.take _).length<=5;rw[ci];omega
  ·exact P9 (hf.pair.sublist (List.take_sublist _ _)) λy hy=>K0 hf y (bJ hy)
 have ra:Oo r:=P9 r2 λy hy=>((r3 y).1 hy).elim (λe=>by rw[e];exact hp) (K0 hl y);refine .br (λ_=>fm [p.1] (P9 (EX _ _) λy hy=>by rw[aJ.1 hy];exact hp) (aJ.2 rfl)) λ_=>fm r ra ((r3 _).2 (.inl rfl))
omit [dL] in
theorem adt{M:kB}(h:Mx 1048576 M)(hl:M.configs.length<=1000){c:om}(hc:GA 1048576 c):Mx 1048576 ⟨M.configs++ [c],M.activated⟩:=⟨by show (M.configs++ [c]).length<=_;rw[be,cn];omega,λd hd=>(bi.1 hd).elim (h.2 d) λe=>by rw[aJ.1 e];exact hc⟩
theorem adJ{c:qO}(h:Gh c):Dn (λy:List Int×Unit=>y.1.length<=6) (QY [c]):=by
 unfold QY;refine .bind (abo h) λc1 l h1 hl=> .iteP rfl (.bind (IR h1 _) λc2 _ h2 _=> .iteP rfl (.br (λ_=> .bind (HZ h2 (by simp)) λc3 x h3 _=> .iteP rfl ?_) λ_=> .ret h2 ?_))
 ·have:=hl.len;refine .iteP ?_ (.ret h3 ?_)
  ·show (l.1++ [x.1]).length*8<=2 ^ 40;rw[be,cn];omega
  ·show (l.1++ [x.1]).length<=6;rw[be,cn];omega
 ·exact ba hl.len (by omega)
theorem X0{c:qO}(h:Gh c):Dn (λy:om×Unit=>GA 1048576 y.1) (PG [c]):=by
 unfold PG;refine .bind (G6 h _) λc1 e h1 _=> .iteP rfl (.bind (abD h1 _) λc2 g h2 hg=> .iteP rfl (.bind (G6 h2 _) λc3 x h3 _=> .iteP rfl ?_));obtain⟨_,g1,g2,_⟩:=hg;have ok:GA 1048576 g.1:=⟨by omega,by omega⟩
 refine .br (λ_=> .bind (HZ h3 (by simp)) λc4 _ h4 _=> .iteP rfl (.ret h4 ok)) λ_=> .br (λ_=> .bind (G6 h3 _) λc4 _ h4 _=> .iteP rfl (.ret h4 ok)) λ_=> .br (λ_=> .bind (adJ h3) λc4 l h4 hl=> .iteP rfl (.ret h4 ⟨by show l.1.length<=_;omega,ok.2⟩)) λ_=> .br (λ_=> .bind (adJ h3) λc4 l h4 hl=> .iteP rfl (.ret h4 ⟨ok.1,by show l.1.length<=_;omega⟩)) λ_=> .ret h3 ok
theorem aed{c:qO}(h:Gh c):Dn (λy:kB×Unit=>Mx 1048576 y.1/\y.1.configs.length<=10) (Qc [c]):=by
 unfold Qc;refine .bind (K8 h (n:=5) (by omega)) λc1 n h1 hn=> .iteP rfl (aag (.bind (.loop (B:=PA) (E:=λe=> ∃c,e.2.2.1= [c] /\Gh c/\Mx 1048576 ⟨e.2.2.2.1,e.2.1.2.1.2.1⟩/\e.2.2.2.1.length<=10) (λs=> ∃ (c:qO) (M:kB) (k:Int),s=(((),(),(),k,()),(((),0,()),((),M.activated,()),()),[c],M.configs,())/\Gh c/\Mx 1048576 M/\0<=k/\M.configs.length+k.toNat<=10) (λs=>s.1.2.2.2.1.toNat) ?_ ⟨c1,⟨[],0⟩,n.1,rfl,h1,⟨bH _,nofun⟩,hn.1,by show 0+n.1.toNat<=10;omega⟩) λy hy=> .ret hy))
 rintro _ ⟨c,M,k,rfl,hc,hM,h0,hl⟩
 refine .br (λhk=> ?_) λ_=> .ret ⟨c,rfl,hc,hM,by show M.configs.length<=10;omega⟩;have hk:k>0:=of_decide_eq_true hk;have hw:IntKind.wrap .i64 (k-1)=k-1:=of (by omega) (by omega);refine .dn (abD hc _) λc2 g h2 hg=> .ip rfl (.bind (Tw M hM g.1 ⟨by omega,by omega⟩) λm hm=> .dn (IR h2 _) λc3 _ h3 _=> .ip rfl (.br (λ_=> .bind (Uf m.1 hm.1 _) λa ha=> .ret ⟨⟨c3,a.1,k-1,by dsimp only;rw[hw],h3,ha.1,by omega,by omega⟩,?_⟩) λ_=> .ret ⟨⟨c3,m.1,k-1,by dsimp only;rw[hw],h3,hm.1,by omega,by omega⟩,?_⟩))
 all_goals
  show (IntKind.wrap .i64 (k-1)).toNat<k.toNat;rw[hw];omega
theorem ad8{c:qO}(h:Gh c):Dn (λy:kB×Unit=>Mx 1048576 y.1) (Qb [c]):=by unfold Qb;refine .bind (aed h) λc1 m h1 hm=> .iteP rfl (.bind (G6 h1 _) λc2 _ h2 _=> .iteP rfl (.br (λ_=> .bind (HZ h2 (by simp)) λc3 _ h3 _=> .iteP rfl (.ret h3 hm.1)) λ_=> .br (λ_=> .bind (X0 h2) λc3 g h3 hg=> .iteP rfl (.iteP ?_ (.ret h3 (adt hm.1 (by omega) hg)))) λ_=> .ret h2 hm.1));show (m.1.configs++ [g.1]).length*64<=2 ^ 40;rw[be,cn];omega
omit [dL] in
theorem aba(c:om)(h:GA maxLen c)(hv:Fk c=some (true,())):Tt (λy=>0<y.1.length/\y.1.length<=10) (FV c):=by unfold FV;rw[hv,ak];refine .br (λh=>by cases h) λ_=> ?_;obtain⟨a1,a2,a3,_⟩:=HV h hv;have l1:=a1.len;have l2:=a2.len;obtain⟨r,r1,_,r4,r5⟩:=YO c.replicas c.witnesses (by omega) (by omega);rw[r1];exact .ret ⟨List.length_pos_of_mem ((r4 c.primary).2 (.inl a3)),by show r.length<=10;omega⟩
omit [dL] in
theorem aeb(l:List sf)(e:Int)(hl:l.length<=1048576):Tt (λy=>y.1.length<=1048576) (Qf l e):=by
 unfold Qf;refine .bind (.count (B:=PB) (E:=λy=> ∃k:Nat,k<=l.length/\y=((l,(k:Int),()),(),())) l.length (λk (_:Unit)=>((l,e,(k:Int),()),(),())) (λ_ _=>True) (λ_ _=> .end (EI _) (.ret ⟨l.length,az _,rfl⟩)) (λk _ hk _=> .go (EH.2 hk) (.ip (EG k) (.get (tn hk) λ_ _ _=> .br (λ_=> .ret ⟨(),by rw[kT (Fl hl) hk],trivial⟩) λ_=> .ret ⟨k,Nat.le_of_lt hk,rfl⟩))) () trivial) ?_
 rintro _ ⟨k,hk,rfl⟩
 have h2: ((l.drop (0:Int).toNat).take ((k:Int).toNat-(0:Int).toNat)).length<=1048576:=by rw[ci,bR];omega
 exact .ip ⟨c9 _,EG k,Int.ofNat_le.2 hk⟩ (.bind (Q:=λy=>y.1.length<=1048576) ⟨_,RN h2,h2⟩ λy hy=> .ret hy)
theorem acb{c:qO}(h:Gh c):Dn (λy:qQ×Int×Unit=>FN 1048576 y.1) (MX [c]):=by
 unfold MX;refine .bind (G6 h _) λc1 _ h1 _=> .iteP rfl (.tt (Zk _) λs hs=> .bind (K8 h1 (n:=3) (by omega)) λc2 e h2 he=> .iteP rfl (.bind (abD h2 _) λc3 g h3 hg=> .iteP rfl ?_));have hw:IntKind.wrap .i64 (1+e.1)=1+e.1:=of (by omega) (by omega);obtain⟨g0,g1,g2,g3⟩:=hg;have g3:=g3 (by rw[hw];omega);have okc:GA 1048576 g.1:=⟨by omega,by omega⟩
 refine .tt (aba g.1 (Fr okc) g3) λm hm=> .bind (K8 h3 (n:=(m.1.length:Int)) (by omega)) λc4 i h4 hi=> .iteP rfl (.iteP hi (.get (by show i.1.toNat<m.1.length;omega) λz _=> .bind (IR h4 _) λc5 _ h5 _=> .iteP rfl ?_))
 have fin: ∀ (c6:qO) (t:qQ),Gh c6->FN 1048576 t-> ∀up:Bool,Dn (λy:qQ×Int×Unit=>FN 1048576 y.1) ((Gz [c6] 4).bind λy46=>iteP (y46.1.length=([c6]:List qO).length) (br y46.2.1 ((Fh y46.1 3).bind λy47=>iteP (y47.1.length=y46.1.length) ((HE (⟨up,t.intact,t.version,t.epoch,t.config,t.first,t.log,t.commit,t.learned⟩:qQ) (IntKind.wrap .i64 (4+y47.2.1))).bind λy48=>some (y47.1,y48.1,z,())) none) (some (y46.1,(⟨up,t.intact,t.version,t.epoch,t.config,t.first,t.log,t.commit,t.learned⟩:qQ),z,()))) none):=λc6 t h6 ht up=>.bind (IR h6 _) λc7 _ h7 _=> .iteP rfl (.br (λ_=> .bind (G6 h7 _) λc8 _ h8 _=> .iteP rfl (.tt (XS ⟨up,t.intact,t.version,t.epoch,t.config,t.first,t.log,t.commit,t.learned⟩ _ ht) λu hu=> .ret h8 hu)) λ_=> .ret h7 ht)
 rw[Fg];refine .br (λ_=> .bind (IR h5 _) λc6 _ h6 _=> .iteP rfl (.br (λ_=>fin c6 s.1 h6 hs _) λ_=>fin c6 s.1 h6 hs _)) λ_=> .bind (aaG h5) λc6 l h6 hl=> .iteP rfl (.tt (aeb l.1 _ (by omega)) λl2 hl2=> .tt (Xj s.1 g.1 z l2.1 hs okc hl2) λt ht=> .bind (IR h6 _) λc7 _ h7 _=> .iteP rfl (.br (λ_=>fin c7 t.1 h7 ht _) λ_=>fin c7 t.1 h7 ht _))
theorem Z1{c:qO}(h:Gh c):Dn (λy:qQ×Int×Unit=>FN 1048576 y.1) (Qe [c]):=by unfold Qe;refine .bind (acb h) λc1 s h1 hs=> .iteP rfl (.bind (G6 h1 _) λc2 _ h2 _=> .iteP rfl ?_);refine .br (λ_=> .bind (HZ h2 (by simp)) λc3 _ h3 _=> .iteP rfl (.ret h3 hs)) λ_=> .br (λ_=> .bind (HZ h2 (by simp)) λc3 _ h3 _=> .iteP rfl (.ret h3 hs)) λ_=> .br (λ_=> .bind (X0 h2) λc3 g h3 hg=> .iteP rfl (.ret h3 ⟨hg,hs.2⟩)) λ_=> .br (λ_=> .bind (HZ h2 (by simp)) λc3 _ h3 _=> .iteP rfl (.ret h3 hs)) λ_=> .br (λ_=> .bind (HZ h2 (by simp)) λc3 _ h3 _=> .iteP rfl (.ret h3 hs)) λ_=> .br (λ_=> .bind (G6 h2 _) λc3 _ h3 _=> .iteP rfl (.ret h3 hs)) λ_=> .br (λ_=> .bind (ZM h2) λc3 l h3 hl=> .iteP rfl (.ret h3 ⟨hs.1,by show l.1.length<=_;omega,hs.2.2⟩)) λ_=> .ret h2 hs
theorem abm{c:qO}(h:Gh c):Dn (λy:List Int×Unit=>y.1.length<=5) (Qg [c]):=by
 unfold Qg;refine .bind (abn h) λc1 l h1 hl=> .iteP rfl (.bind (G6 h1 _) λc2 _ h2 _=> .iteP rfl (.br (λ_=> ?_) λ_=> .br (λ_=> .bind (HZ h2 (by simp)) λc3 x h3 _=> .iteP rfl (.iteP ?_ (.get ?_ λ_ _=> .ret h3 ?_))) λ_=> .ret h2 (Nat.le_of_eq hl)))
 ·have hl:l.1.length=5:=hl;refine .iteP (by show (0:Int)<=1/\(1:Int)<=(l.1.length:Int)/\(l.1.length:Int)<=(l.1.length:Int);omega) ?_;rw[C9,if_neg (by intro h;exact absurd h.1 (by decide))];refine .iteP (by show 0+(1:Int).toNat+((l.1.length:Int).toNat-(1:Int).toNat)<=l.1.length;omega) (.ret h2 ?_);show ((l.1.drop (0+(1:Int).toNat)).take ((l.1.length:Int).toNat-(1:Int).toNat)).length<=5;rw[ci,bR];omega
 ·have hl:l.1.length=5:=hl;show (0:Int)<=1/\(1:Int)< (l.1.length:Int);omega
 ·have hl:l.1.length=5:=hl;show (1:Int).toNat<l.1.length;omega
 ·show (l.1.set _ _).length<=5;rw[EL];exact Nat.le_of_eq hl
theorem ZU{c:qO}(h:Gh c):Dn (λy:List vB×Unit=>y.1.length<=5) (RV [c]):=by
 unfold RV;refine .bind (Zm h) λc1 l h1 hl=> .iteP rfl (.bind (G6 h1 _) λc2 _ h2 _=> .iteP rfl ?_);have hl:l.1.length=5:=hl.1;refine .br (λ_=> ?_) λ_=> .br (λ_=> .bind (HZ h2 (by simp)) λc3 x h3 _=> .iteP rfl (.iteP (by show (0:Int)<=0/\(0:Int)< (l.1.length:Int);omega) (.get (by show (0:Int).toNat<l.1.length;omega) λ_ _=> .ret h3 ?_))) λ_=> .br (λ_=> .bind (HZ h2 (by simp)) λc3 x h3 _=> .iteP rfl (.iteP (by show (0:Int)<=1/\(1:Int)< (l.1.length:Int);omega) (.get (by show (1:Int).toNat<l.1.length;omega) λ_ _=> .ret h3 ?_))) λ_=> .ret h2 (Nat.le_of_eq hl)
 ·refine .iteP (by show (0:Int)<=1/\(1:Int)<=(l.1.length:Int)/\(l.1.length:Int)<=(l.1.length:Int);omega) ?_;rw[C9,if_neg (by intro h;exact absurd h.1 (by decide))];refine .iteP (by show 0+(1:Int).toNat+((l.1.length:Int).toNat-(1:Int).toNat)<=l.1.length;omega) (.ret h2 ?_);show ((l.1.drop (0+(1:Int).toNat)).take ((l.1.length:Int).toNat-(1:Int).toNat)).length<=5;rw[ci,bR];omega
 ·show (l.1.set _ _).length<=5;rw[EL];omega
 ·show (l.1.set _ _).length<=5;rw[EL];omega
theorem aac{c:qO}(h:Gh c):Dn (λy:qN×Unit=>FF 1048576 y.1/\y.1.servers.length=5) (LH [c]):=by unfold LH;refine .bind (Zm h) λc1 l h1 hl=> .iteP rfl (.tt (adv l.1 (by have:=hl.1;omega)) λx hx=> .bind (Zx h1 (by omega) (by omega)) λc2 e h2 he=> .iteP rfl (.tt (YN x.1 hx.1 e.1 (by omega)) λy hy=> .ret h2 ⟨hy.1.1,hy.1.2.trans (hx.2 hl.2)⟩))
theorem Uk{c:qO}(h:Gh c):Dn (λy:qN×Unit=>FF 1048576 y.1/\y.1.servers.length=5) (OZ [c]):=by unfold OZ;refine .bind (aac h) λc1 x h1 hx=> .iteP rfl (.bind (G6 h1 _) λc2 _ h2 _=> .iteP rfl ?_);obtain⟨⟨x1,x2,x3,x4⟩,x5⟩:=hx;refine .br (λ_=> .bind (HZ h2 (by simp)) λc3 _ h3 _=> .iteP rfl (.ret h3 ⟨⟨x1,x2,x3,x4⟩,x5⟩)) λ_=> .br (λ_=> .bind (abm h2) λc3 l h3 hl=> .iteP rfl (.ret h3 ⟨⟨x1,by show l.1.length<=_;omega,x3,x4⟩,x5⟩)) λ_=> .br (λ_=> .bind (ad8 h2) λc3 m h3 hm=> .iteP rfl (.ret h3 ⟨⟨x1,x2,hm,x4⟩,x5⟩)) λ_=> .br (λ_=> .bind (HZ h2 (by simp)) λc3 _ h3 _=> .iteP rfl (.ret h3 ⟨⟨x1,x2,x3,x4⟩,x5⟩)) λ_=> .br (λ_=> .bind (aaF h2) λc3 _ h3 _=> .iteP rfl (.ret h3 ⟨⟨x1,x2,x3,x4⟩,x5⟩)) λ_=> .br (λ_=> .bind (ZU h2) λc3 l h3 hl=> .iteP rfl (.ret h3 ⟨⟨x1,x2,x3,by show l.1.length<=_;omega⟩,x5⟩)) λ_=> .br (λ_=> .bind (Z1 h2) λc3 s h3 hs=> .iteP rfl (.bind (K8 h3 (n:=5) (by omega)) λc4 i h4 hi=> .iteP rfl (.iteP (by show 0<=i.1/\i.1< (x.1.servers.length:Int);rw[x5];exact hi) (.get (by show i.1.toNat<x.1.servers.length;omega) λ_ _=> .ret h4 ⟨⟨RB x1 hs _,x2,x3,x4⟩,by show (x.1.servers.set _ _).length=5;rw[EL];exact x5⟩)))) λ_=> .ret h2 ⟨⟨x1,x2,x3,x4⟩,x5⟩
omit [dL] in
end
end
section
theorem Tt.tru{r:Option (Bool×Unit)}(h:Tt (λy=>y.1=true) r):r=some (true,()):=by obtain⟨⟨b,_⟩,e,rfl⟩:=h;exact e
theorem Tt.is{α:Type}{Q:α->Prop}{r:Option α}{a:α}(h:Tt Q r)(e:r=some a):Q a:=by obtain⟨b,h1,h2⟩:=h;rw[e] at h1;cases h1;exact h2
theorem adm(l:List Int)(hl:l.length<=maxLen):Jz l l=some (true,()):=by
 refine Tt.tru ?_;unfold Jz;rw[Fg,beq_self_eq_true];refine .br (λ_=> .bind (.count (B:=Ih) (E:=Sum.elim (λ_=>False) λ_=>True) l.length (λk (_:Unit)=>((l,l,(l.length:Int),(k:Int),()),(),())) (λ_ _=>True) (λ_ _=> .end (EI _) (.ret trivial)) (λk _ hk _=> .go (EH.2 hk) (.ip (EG k) (.get (tn hk) λx e _=> .ip (EG k) (.get (tn hk) λy e2 _=> ?_)))) () trivial) λy hy=> ?_) (λh=>by cases h)
 ·obtain rfl:x=y:=Option.some.inj ((show l[k]? =some x from e).symm.trans (show l[k]? =some y from e2));rw[beq_self_eq_true];exact .br (λh=>by cases h) λ_=> .ret ⟨(),by rw[kT hl hk],trivial⟩
 ·cases y with
  |inl y=>exact hy.elim
  |inr y=>exact .ret rfl
theorem aaj(l:List vB)(hl:l.length<=maxLen):Ke l l=some (true,()):=by
 refine Tt.tru ?_;unfold Ke;rw[Fg,beq_self_eq_true];refine .br (λ_=> .bind (.count (B:=Ku) (E:=Sum.elim (λ_=>False) λ_=>True) l.length (λk (_:Unit)=>((l,l,(l.length:Int),(k:Int),()),(),())) (λ_ _=>True) (λ_ _=> .end (EI _) (.ret trivial)) (λk _ hk _=> .go (EH.2 hk) (.ip (EG k) (.get (tn hk) λx e _=> .ip (EG k) (.get (tn hk) λy e2 _=> ?_)))) () trivial) λy hy=> ?_) (λh=>by cases h)
 ·obtain rfl:x=y:=Option.some.inj ((show l[k]? =some x from e).symm.trans (show l[k]? =some y from e2));simp only[beq_self_eq_true,Bool.and_self];exact .br (λh=>by cases h) λ_=> .ret ⟨(),by rw[kT hl hk],trivial⟩
 ·cases y with
  |inl y=>exact hy.elim
  |inr y=>exact .ret rfl
theorem adO(s:qQ)(h:FN 1048576 s):HW s s=some (true,()):=by unfold HW;simp only[beq_self_eq_true,DE,(GD s.config s.config (Fr h.1)).2,X5 s.log s.log (Fl h.2.1),X5 s.learned s.learned (Fl h.2.2),decide_true,ak]
theorem aec(m:kB)(h:Mx 1048576 m):IG m m=some (true,()):=by
 have hl:=Fl h.1;refine Tt.tru ?_;unfold IG Gk;rw[beq_self_eq_true,Fg,beq_self_eq_true];refine .br (λ_=> .bind (Q:=λy=>y.1=true) (.br (λ_=> .bind (.count (B:=Gc) (E:=Sum.elim (λ_=>False) λ_=>True) m.configs.length (λk (_:Unit)=>((m.configs,(),m.configs,(m.configs.length:Int),(k:Int),()),(),())) (λ_ _=>True) (λ_ _=> .end (EI _) (.ret trivial)) (λk _ hk _=> .go (EH.2 hk) (.ip (EG k) (.get (tn hk) λx e hx=> .ip (EG k) (.get (tn hk) λy e2 _=> ?_)))) () trivial) λy hy=> ?_) (λh=>by cases h)) λy hy=> .ret hy) (λh=>by cases h)
 ·obtain rfl:x=y:=Option.some.inj ((show m.configs[k]? =some x from e).symm.trans (show m.configs[k]? =some y from e2));rw[(GD x x (Fr (h.2 x hx))).2,decide_eq_true rfl,ak];exact .br (λh=>by cases h) λ_=> .ret ⟨(),by rw[kT hl hk],trivial⟩
 ·cases y with
  |inl y=>exact hy.elim
  |inr y=>exact .ret rfl
theorem adN(x:qN)(ok:FF 1048576 x):Iu x x=some (true,()):=by
 have hl:=Fl ok.1.1;refine Tt.tru ?_;unfold Iu F5;simp only[beq_self_eq_true,Bool.and_self,DE,adm x.sides (Fl ok.2.1),aec x.master ok.2.2.1,aaj x.places (Fl ok.2.2.2),ak];rw[Fg];refine .bind (Q:=λy=>y.1=true) (.br (λ_=> .bind (.count (B:=FU) (E:=Sum.elim (λ_=>False) λ_=>True) x.servers.length (λk (_:Unit)=>((x.servers,(),x.servers,(x.servers.length:Int),(k:Int),()),(),())) (λ_ _=>True) (λ_ _=> .end (EI _) (.ret trivial)) (λk _ hk _=> .go (EH.2 hk) (.ip (EG k) (.get (tn hk) λs e hs=> .ip (EG k) (.get (tn hk) λt e2 _=> ?_)))) () trivial) λy hy=> ?_) (λh=>by cases h)) λy hy=> .br (λ_=> .ret rfl) λh=>by rw[h] at hy;cases hy
 ·obtain rfl:s=t:=Option.some.inj ((show x.servers[k]? =some s from e).symm.trans (show x.servers[k]? =some t from e2));rw[adO s (ok.1.2 s hs),ak];exact .br (λh=>by cases h) λ_=> .ret ⟨(),by rw[kT hl hk],trivial⟩
 ·cases y with
  |inl y=>exact hy.elim
  |inr y=>exact .ret rfl
end
section

end
section
theorem adi(x:qN)(ok:FF 1048576 x)(hv:Ff x=some (true,())){id:Int}{S:List Int}(hS:G3 x id=some (S,()))(h5:S.length<=5)(hr: ∀z∈S,0<=z/\z<5):Tt (λy=>(S= [] ->y.1= -1)/\(S≠ [] ->y.1∈S)) (G2 x id):=by
 have vc:=FJ ok hv;have lm:S.length<=maxLen:=by unfold maxLen;omega
 unfold G2;rw[hS,ak];refine .bind (.count (B:=Hb) (E:=λe=>(S= [] ->e.1.1= -1)/\(S≠ [] ->e.1.1∈S)) S.length (λk (b:Int)=>(((),b,(),(k:Int),()),(fx x,()),(S,()))) (λk b=>(k=0/\b= -1)\/(0<k/\b∈S)) (λb hb=> .end (EI _) (.ret ⟨λh=> ?_,λh=> ?_⟩)) (λk b hk hb=> ?_) (-1) (.inl ⟨rfl,rfl⟩)) λe h=> .ret h
 ·rcases hb with hb|hb
  ·exact hb.2
  ·rw[h] at hb;exact absurd hb.1 (dI _)
 ·rcases hb with hb|hb
  ·exact absurd (bh hb.1) h
  ·exact hb.2
 ·have c1: (k:Int)< (S.length:Int):=by omega
  have c2: (0:Int)<=(k:Int)/\(k:Int)< (S.length:Int):=by omega
  have hm:=dq hk;have hz:=hr _ hm;have hg:S[k]? =some S[k] :=an hk;generalize S[k] =z at hz hg hm;obtain⟨s,s1,s2,_⟩:=Jp ok vc hz;simp only[Hb,fx,jZ,C9,if_pos c1,if_pos c2,cO,hg,ak,if_pos hz.1,s1,kT lm hk];have new: ∃b',(((),z,(),((k+1:Nat):Int),()),(fx x,()),S,())=(((),b',(),((k+1:Nat):Int),()),(fx x,()),S,())/\((k+1=0/\b'= -1)\/(0<k+1/\b'∈S)):=⟨z,rfl,.inr ⟨Nat.succ_pos k,hm⟩⟩
  rcases hb with ⟨_,rfl⟩| ⟨_,hb⟩
  ·exact .ret new
  ·have hb2:=hr _ hb;obtain⟨t,t1,_⟩:=Jp ok vc hb2;simp only[if_neg (show ¬b<0 by omega),if_pos hb2.1,t1,ak];split
   ·exact .ret new
   ·exact .ret ⟨b,rfl,.inr ⟨Nat.succ_pos k,hb⟩⟩
theorem UN(x:qN)(ok:FF 1048576 x): ∃c d,Fm x.master=some (c,d,())/\FL x.master=some (c,d,())/\GA maxLen c:=by obtain⟨c,d,d1,d2,d3⟩:=MQ x.master x.master.activated ok.2.2.1;unfold Fm FL;rw[d1,d2];exact⟨c,d,rfl,rfl,d3⟩
theorem aeg(x:qN)(ok:FF 1048576 x)(id:Int)(h24:IA x id=some (false,()))(hh:FK x id=some (false,())):
  G3 x id=some ([],())/\HY x id=some ([],())/\GH x id=some ([],false,())/\IJ x id=some ([],false,())/\Gp x id=some ([],false,())/\II x id=some ([],false,())/\G2 x id=some (-1,())/\IE x id=some (-1,()):=by
 obtain⟨v,v1,v2⟩:=FR x ok;obtain⟨c,d,d1,d2,_⟩:=UN x ok
 have hw:v=false\/HP id 0 4=false:=by
  unfold IA at h24;simp only[v1,FZ,ak] at h24;cases v with
  |false=>exact .inl rfl
  |true=>simp only[DE,af,au,and_true] at h24;exact .inr h24
 have a1:G3 x id=some ([],()):=by
  unfold G3;rw[d1,ak]
  rw[show LS ((id,(),(),(),d,0,()),(fx x,(c.epoch,c.primary,(),(),()),()),([],c.replicas,c.witnesses,()))=some (((),()),(),([],())) from me (by
   simp only[Hc,fx,jZ,show (⟨x.now,x.servers,x.sides,(⟨x.master.configs,x.master.activated⟩:kB),x.masterUp,(⟨x.lease.epoch,x.lease.holder,x.lease.ends⟩:vz),x.places⟩:qN)=x from rfl,v1,FZ,ak];split
   ·cases d with
    |false=>rfl
    |true=>
     rcases hw with rfl|hw
     ·rfl
     ·rw[hw];cases v<;>rfl
   ·rfl)]
  rfl
 have a3:GH x id=some ([],false,()):=by
  unfold GH;rw[d1,ak]
  rw[show LU ((id,(),(),false,(),d,0,()),(fx x,(c.epoch,c.primary,(),(),()),()),([],c.replicas,c.witnesses,()))=some (((),false,()),(),([],())) from me (by
   simp only[Gw,fx,jZ,show (⟨x.now,x.servers,x.sides,(⟨x.master.configs,x.master.activated⟩:kB),x.masterUp,(⟨x.lease.epoch,x.lease.holder,x.lease.ends⟩:vz),x.places⟩:qN)=x from rfl,v1,FZ,ak];split
   ·cases d with
    |false=>rfl
    |true=>
     rcases hw with rfl|hw
     ·rfl
     ·rw[hw];cases v<;>rfl
   ·rfl)]
  rfl
 have a2:HY x id=some ([],()):=by unfold HY;rw[d2,ak,hh,ak];cases d<;>rfl
 refine⟨a1,a2,a3,?_,?_,?_,?_,?_⟩
 ·unfold IJ;rw[d2,ak,hh,ak];cases d<;>rfl
 ·unfold Gp;rw[v1,FZ,ak,ak];rcases hw with rfl|hw
  ·rfl
  ·rw[hw];cases v<;>rfl
 ·unfold II;rw[hh];rfl
 ·unfold G2;rw[a1,ak,show N4 (((),-1,(),0,()),(fx x,()),([],()))=some ((-1,()),(),()) from me rfl];rfl
 ·unfold IE;rw[a2,ak,show N3 (((),-1,(),(([]:List Int).length:Int),0,()),(fx x,()),([],()))=some ((-1,()),(),()) from me rfl];rfl
theorem Vi(x:qN)(ok:FF 1048576 x)(id:Int): ∃S n l b w f,G3 x id=some (S,())/\HY x id=some (S,())/\G2 x id=some (n,())/\IE x id=some (n,())/\Gp x id=some (l,b,())/\II x id=some (l,b,())/\GH x id=some (w,f,())/\IJ x id=some (w,f,())/\
  S.length<=5/\l.length<=1048576/\w.length<=1048576/\(S≠ [] ->b=true/\n∈S)/\(b=false->S= [] /\f=false):=by
 obtain⟨g,g1,g2,g3⟩:=Um x id ok;cases g with
 |false=>obtain⟨a1,a2,a3,a4,a5,a6,a7,a8⟩:=aeg x ok id g1 g2;exact⟨[],-1,[],false,[],false,a1,a2,a7,a8,a5,a6,a3,a4,bH _,bH _,bH _,λh=>absurd rfl h,λ_=>⟨rfl,rfl⟩⟩
 |true=>
  obtain⟨hv,hid⟩:=g3 rfl;obtain⟨S,s1,s2,s3,s4⟩:=Vj ok ok hv hv (.refl x) hid;obtain⟨n,n1,n2,n3⟩:=Ui ok ok hv hv (.refl x) hid;obtain⟨l,b,l1,l2,l3⟩:=Wm ok ok hv hv (.refl x) hid;obtain⟨w,f,w1,w2,w3⟩:=Vk ok ok hv hv (.refl x) hid;have hn:=(adi x ok hv s1 s3 s4).is n1
  have hb: (S≠ [] ->b=true)/\(b=false->f=false):=by
   unfold Gp at l1;simp only[hv,FZ,Fj.2 (show 0<=id/\id<=4 by omega),n1,w1,ak,Fg,DE] at l1;cases h:x.master.activated==0 with
   |true=>rw[h] at l1;simp only[DE,af,au] at l1;rw[<-l1.2.1];exact⟨λ_=>rfl,nofun⟩
   |false=>
    rw[h] at l1;simp only[CU,jZ] at l1;by_cases hn0:n≥0
    ·obtain⟨t,t1,t2,_⟩:=Jp ok (FJ ok hv) (by omega:0<=n/\n<5);rw[if_pos hn0,C9,if_pos hn0,t1,ak,(JX _ t2.2.1).1,ak] at l1;simp only[af,au] at l1;rw[<-l1.2.1];exact⟨λ_=>rfl,nofun⟩
    ·rw[if_neg hn0] at l1;simp only[af,au] at l1;refine⟨λh=> ?_,λh=>l1.2.1.trans h⟩;exact absurd (s4 _ (hn.2 h)).1 hn0
  refine⟨S,n,l,b,w,f,s1,s2,n1,n2,l1,l2,w1,w2,s3,l3,by omega,λh=>⟨hb.1 h,hn.2 h⟩,λh=>⟨?_,hb.2 h⟩⟩;exact Classical.byContradiction λh2=>by rw[hb.1 h2] at h;cases h
end
section
theorem ace(x:qN)(ok:FF 1048576 x){a b:Int}(ha: ¬ (0<=a/\a<5)):GN x.sides a b=some (false,())/\IU x.sides a b=some (false,()):=by
 obtain⟨v,s1,s2⟩:=NL x.sides (Fl ok.2.1)
 have wa:HP a 0 4=false:=by
  cases h:HP a 0 4 with
  |false=>rfl
  |true=>exact absurd (by have:=Fj.1 h;omega) ha
 unfold GN IU;rw[s1,s2];simp only[FZ,Kz,wa,ak];cases v<;>exact⟨rfl,rfl⟩
theorem aca(x:qN)(ok:FF 1048576 x){id:Int}(e:Int)(hid: ¬ (0<=id/\id<5)):GC x id e=some (x,())/\HC x id e=some (x,()):=by
 obtain⟨v,v1,v2⟩:=FR x ok;obtain⟨c,d,d1,d2,d3⟩:=UN x ok;obtain⟨m,m1,m2,m3,m4,m5,_⟩:=Mv c d3;have mm:m.length<=maxLen:=by unfold maxLen;omega
 unfold GC HC;simp only[(GV x ok).1,(GV x ok).2,d1,d2,v1,v2,FZ,Kz,ak,Fg];cases v with
 |false=>exact⟨rfl,rfl⟩
 |true=>
 have vc:=FJ ok v1;cases d with
 |false=>exact⟨rfl,rfl⟩
 |true=>
 cases HP e 1 (x.master.configs.length:Int) with
 |false=>exact⟨rfl,rfl⟩
 |true=>
  obtain⟨_,_,k1,k2⟩:=ND (B1:=GB) (B2:=GY) m.length
   (λk (_:Unit)=>((id,e,(),(),(),(),(k:Int),()),(fx x,fz,fc x,()),(m,x.servers,x.sides,x.master.configs,x.places,())))
   (λk (_:Unit)=>((id,e,(),(),(),(),(m.length:Int),(k:Int),()),(fx x,fz,fc x,()),(m,x.servers,x.sides,x.master.configs,x.places,())))
   (λ_ _=>True)
   (λ_=>(((),(),()),(fz,fc x,()),(x.servers,x.sides,x.master.configs,x.places,())))
   (λ_=>(((),(),()),(fz,fc x,()),(x.servers,x.sides,x.master.configs,x.places,())))
   (λ_ _=>by simp only[GB,GY,jZ];exact⟨if_neg (by omega),if_neg (by omega)⟩)
   (λk _ hk _=>by
     have c1: (k:Int)< (m.length:Int):=by omega
     have c2: (0:Int)<=(k:Int)/\(k:Int)< (m.length:Int):=by omega
     have hz:=m4 _ (dq hk);have hg:m[k]? =some m[k] :=an hk;generalize m[k] =z at hz hg;obtain⟨s,s1,s2,_⟩:=Jp ok vc hz;obtain⟨h1,h2⟩:=ace x ok (b:=z) hid;have c3:0<=z/\z< (x.servers.length:Int):=by rw[vc.len];exact hz
     refine⟨(),?_,?_,trivial⟩
     ·simp only[GB,fx,jZ,C9,if_pos c1,if_pos c2,cO,hg,ak,if_pos hz.1,s1,h1,kT mm hk,CU];cases s.up<;>rfl
     ·simp only[GY,fx,jZ,C9,if_pos c1,if_pos c2,cO,hg,ak,if_pos c3,s1,h2,kT mm hk,CU];cases s.up<;>rfl)
   () trivial
  simp only[DE,m1,m2,ak];rw[show Ng ((id,e,(),(),(),(),0,()),(fx x,fz,fc x,()),(m,x.servers,x.sides,x.master.configs,x.places,()))=_ from k1,show Nf ((id,e,(),(),(),(),(m.length:Int),0,()),(fx x,fz,fc x,()),(m,x.servers,x.sides,x.master.configs,x.places,()))=_ from k2];exact⟨rfl,rfl⟩
theorem ad1(x:qN)(ok:FF 1048576 x)(id e:Int): ∃y,GC x id e=some (y,())/\HC x id e=some (y,())/\FF 1048576 y/\(Ff x=some (true,())->Ff y=some (true,())/\Z6 x y/\ ∃S,y=Jl x S):=by
 by_cases hid:0<=id/\id<5
 ·obtain⟨v,v1,v2⟩:=FR x ok;cases v with
  |true=>obtain⟨S,a1,a2,a3,a4,a5,_⟩:=Tx x ok v1 (e:=e) hid;exact⟨_,a1,a2,a3,λ_=>⟨a4,a5,S,rfl⟩⟩
  |false=>
   obtain⟨c,d,d1,d2,_⟩:=UN x ok;refine⟨x,?_,?_,ok,λh=>by rw[v1] at h;cases h⟩
   ·unfold GC;simp only[(GV x ok).1,d1,v1,ak,Fg];rfl
   ·unfold HC;simp only[(GV x ok).2,d2,v2,ak,Fg];rfl
 ·obtain⟨a1,a2⟩:=aca x ok e hid;exact⟨x,a1,a2,ok,λh=>⟨h,.refl x,x.servers,rfl⟩⟩
structure Co (x y:qN):Prop where
 sides:y.sides=x.sides
 master:y.master=x.master
 srv: ∀ (j:Nat) s,x.servers[j]? =some s-> ∃t,y.servers[j]? =some t/\t.up=s.up/\t.version=s.version/\t.epoch=s.epoch/\t.config=s.config
theorem Co.trans{x y z:qN}(h:Co x y)(k:Co y z):Co x z:=⟨k.1.trans h.1,k.2.trans h.2,λj s hs=>by obtain⟨t,t1,t2,t3,t4,t5⟩:=h.srv j s hs;obtain⟨u,u1,u2,u3,u4,u5⟩:=k.srv j t t1;exact⟨u,u1,u2.trans t2,u3.trans t3,u4.trans t4,u5.trans t5⟩⟩
theorem Co.set{x y:qN}(h:Co x y){i:Nat}{s t:qQ}(hs:y.servers[i]? =some s)(h1:t.up=s.up)(h2:t.version=s.version)(h3:t.epoch=s.epoch)(h4:t.config=s.config):Co x ⟨y.now,y.servers.set i t,y.sides,y.master,y.masterUp,y.lease,y.places⟩:=
 h.trans ⟨rfl,rfl,λj u hu=>by
  by_cases hj:i=j
  ·subst hj;rw[hs] at hu;obtain rfl:=Option.some.inj hu;exact⟨t,Fb (yw hs),h1,h2,h3,h4⟩
  ·exact⟨u,(EV hj).trans hu,rfl,rfl,rfl,rfl⟩⟩
def Hr(x:qN)(a b:Int):Prop:=∀p q,x.servers[a.toNat]? =some p->x.servers[b.toNat]? =some q->q.epoch=p.epoch/\q.config=p.config
theorem Co.hr{x y:qN}(h:Co x y){a b:Int}(hh:Hr y a b):Hr x a b:=λp q hp hq=>by obtain⟨p',p1,_,_,p2,p3⟩:=h.srv _ _ hp;obtain⟨q',q1,_,_,q2,q3⟩:=h.srv _ _ hq;obtain⟨e1,e2⟩:=hh p' q' p1 q1;exact⟨q2.symm.trans (e1.trans p2),q3.symm.trans (e2.trans p3)⟩
end
section
theorem Wb:F9 [] =some (true,()):=(O3 [] (by unfold maxLen;decide)).2 ⟨by decide,λk h=>absurd h (Fa k)⟩
theorem XZ{α:Type}{P:Prop}{b:Bool}{x y z:Option α}(h:br b x y=z)(h1:b=true->x=z->P)(h2:b=false->y=z->P):P:=by
 cases b with
 |true=>exact h1 rfl h
 |false=>exact h2 rfl h
end
section
def Ev{α:Type}(Q:α->Prop)(r:Option α):Prop:=∀a,r=some a->Q a
section
variable {α β σ ε:Type} {Q:α->Prop} {Q':β->Prop}
theorem Ev.ret{a:α}(h:Q a):Ev Q (some a):=λ_ e=>Option.some.inj e ▸ h
theorem Ev.no:Ev Q none:=nofun
theorem Ev.bd{r:Option α}{k:α->Option β}(hk: ∀a,r=some a->Ev Q' (k a)):Ev Q' (r.bind k):=λb e=>by
 cases r with
 |none=>cases e
 |some a=>exact hk a rfl b e
theorem Ev.bind{r:Option α}{k:α->Option β}(h:Ev Q r)(hk: ∀a,Q a->Ev Q' (k a)):Ev Q' (r.bind k):=.bd λa e=>hk a (h a e)
theorem Ev.br{b:Bool}{x y:Option α}(h1:b=true->Ev Q x)(h2:b=false->Ev Q y):Ev Q (Go.Proofs.YtkghndikalnipaaGreat.En.br b x y):=by
 cases b with
 |true=>exact h1 rfl
 |false=>exact h2 rfl
theorem Ev.brn{b:Bool}{x y:Option α}(h1:b=true->Ev Q y)(h2:b=false->Ev Q x):Ev Q (Go.Proofs.YtkghndikalnipaaGreat.En.br (!b) x y):=by
 cases b with
 |true=>exact h1 rfl
 |false=>exact h2 rfl
theorem Ev.ip{p:Prop}{d:Decidable p}{x:Option α}(h:p->Ev Q x):Ev Q (@iteP _ p d x none):=by
 by_cases hp:p
 ·rw[jo hp];exact h hp
 ·rw[Da hp];exact .no
theorem Ev.mono{Q2:α->Prop}{r:Option α}(h:Ev Q r)(hq: ∀a,Q a->Q2 a):Ev Q2 r:=λa e=>hq a (h a e)
theorem Ev.loop{B:σ->Option (σ⊕ε)}{E:ε->Prop}(I:σ->Prop)(h: ∀s,I s->Ev (Sum.elim I E) (B s)){s:σ}(hs:I s):Ev E (md B s):=by
 intro e he;obtain⟨n,hn⟩:=kj.1 he;clear he
 induction n generalizing s with
 |zero=>cases hn
 |succ n ih=>
  unfold lO at hn;cases hB:B s with
  |none=>rw[hB] at hn;cases hn
  |some r=>
   rw[hB] at hn;have hr:=h s hs r hB;cases r with
   |inl s'=>exact ih hr hn
   |inr e'=>exact Option.some.inj hn ▸ hr
theorem Ev.count{B:σ->Option (σ⊕ε)}{E:ε->Prop}(m:Nat->β->σ)(J:Nat->β->Prop)(h: ∀k b,J k b->Ev (Sum.elim (λs=> ∃b',s=m (k+1) b'/\J (k+1) b') E) (B (m k b))){b:β}(hb:J 0 b):Ev E (md B (m 0 b)):=
 Ev.loop (λs=> ∃k b,s=m k b/\J k b) (λs hs=>by
  obtain⟨k,b,rfl,hJ⟩:=hs;refine (h k b hJ).mono λr hr=> ?_;cases r with
  |inl s=>obtain⟨b',e,hJ'⟩:=hr;exact⟨k+1,b',e,hJ'⟩
  |inr e=>exact hr) ⟨0,b,rfl,hb⟩
end
theorem V9(l:List sf):Ev (λy=>y.1=l) (GM l):=by unfold GM;exact .ip λ_=> .ret (bK l)
theorem adQ(a:List sf)(n:Int)(t:List sf):Ev (λy=>y.2.1=true->F9 y.1=some (true,())/\ ∀e∈y.1,e∈a\/e∈t) (Jx a n t):=by unfold Jx;refine .bd λ_ _=> .brn (λ_=> .bd λ_ _=> .brn (λ_=> .br (λ_=> .ret nofun) λ_=> .ip λ_=> .bd λy3 _=> .br (λ_=> .ret nofun) λ_=> .bind (V9 a) λy4 h4=> .ip λ_=> .ip λ_=> .bd λy5 h5=> .brn (λe5=> .ret λ_=>⟨by rw[h5];exact congrArg some (Prod.ext e5 rfl),λe he=> ?_⟩) λ_=> .ret nofun) λ_=> .ret nofun) λ_=> .ret nofun;rw[h4] at he;exact (bi.1 he).imp id λh=>bw (bJ h)
theorem ade(s:qQ):Ev (λy=> ∀e∈y.1,e∈s.log) (FM s):=by unfold FM;refine .bd λ_ _=> .brn (λ_=> .br (λ_=> .ret nofun) λ_=> .ip λ_=> .bind (V9 _) λy h=> .ret λe he=> ?_) λ_=> .ret nofun;rw[h] at he;exact bw (bJ he)
theorem adK(s:qQ)(id:Int):Ev (λy=> ∀e∈y.1,e∈s.learned\/e∈s.log) (Ky s id):=by unfold Ky;refine .bd λ_ _=> .bind (V9 _) λy2 h2=> ?_;have h2: ∀e∈y2.1,e∈s.learned\/e∈s.log:=λe he=> .inl (h2 ▸ he);exact .br (λ_=> .bind (ade s) λy hy=> .br (λ_=> .ret λe he=> .inr (hy e he)) λ_=> .ret h2) λ_=> .br (λ_=> .bind (ade s) λy hy=> .br (λ_=> .ret λe he=> .inr (hy e he)) λ_=> .ret h2) λ_=> .ret h2
end
section
theorem XB{l:List sf}(hl:l.length<=maxLen)(h:F9 l=some (true,())){e:Int}(he:Iz l=some (e,())): ∀x∈l,x.epoch<=e:=by
 obtain⟨_,h2⟩:=(O3 l hl).1 h
 have step: ∀k (hk:k+1<l.length),(l[k]'(by omega)).epoch<=(l[k+1]'hk).epoch:=by intro k hk;have h3:=h2 (k+1) hk;unfold ZN at h3;rw[an hk,show k+1-1=k from rfl,an (by omega)] at h3;simp at h3;omega
 have chain: ∀d k (hk:k+d<l.length),(l[k]'(by omega)).epoch<=(l[k+d]'hk).epoch:=by
  intro d
  induction d with
  |zero=>intro k hk;exact c9 _
  |succ d ih=>intro k hk;exact Int.le_trans (ih k (by omega)) (step (k+d) hk)
 intro x hx;obtain⟨k,hk,rfl⟩:=aQ hx;unfold Iz at he;unfold maxLen at hl;rw[show ((l.length:Int)==0)=false from beq_eq_false_iff_ne.2 (by omega),CU,of (by omega) (by omega),jo (by omega),an (by omega),ak] at he;rw[<-(Prod.mk.inj (Option.some.inj he)).1];have h4:=chain (l.length-1-k) k (by omega);have e1:k+(l.length-1-k)=((l.length:Int)-1).toNat:=by omega
 simp only[e1] at h4;exact h4
theorem acv{l:List sf}{n:Int}(h0:0<=n)(h: ∀x∈l,x.epoch<=n):Ev (λy=>y.1<=n) (Iz l):=by unfold Iz;exact .br (λ_=> .ret h0) λ_=> .ip λ_=> .bd λx hx=> .ret (h x (ay hx))
theorem adD{s:qQ}{id:Int}(ok:FN 1048576 s)(hv:Fi s id=some (true,())): ∀e∈s.log,e.epoch<=s.config.epoch:=by
 have hc:=Fr ok.1;obtain⟨_,_,_,_,_,f6,f7,_⟩:=L4 ok hv;obtain⟨e,e1,_⟩:=KB s.log (Fl ok.2.1);obtain⟨n,n1,_⟩:=OT s.config id hc;have no: ∀ {P:Prop},some (false,())=some (true,())->P:=λh=>by cases h
 unfold Fi at hv;simp only[FZ,f6,f7,MN s.config hc,n1,e1,ak,Fg,DE] at hv;refine XZ hv (λ_ hv=>XZ hv (λ_ hv=>XZ hv (λ_ hv=>XZ hv (λ_ hv=>XZ hv (λ_ hv=>XZ hv (λ_ hv=>XZ hv (λ_ hv=>XZ hv (λh0 _=> ?_) λ_ h=>no h) λ_ h=>no h) λ_ hv=>XZ hv (λ_ hv=>XZ hv (λ_ h=>no h) λ_ hv=>XZ hv (λ_ h=>no h) λhle _=> ?_) λ_ h=>no h) λ_ h=>no h) λ_ h=>no h) λ_ h=>no h) λ_ h=>no h) λ_ h=>no h
 ·have h0: (s.log.length:Int)=0:=eq_of_beq h0;rw[bh (by omega:s.log.length=0)];exact nofun
 ·have hle: ¬e>s.config.epoch:=of_decide_eq_false hle
  exactλx hx=>Int.le_trans (XB (Fl ok.2.1) f6 e1 x hx) (by omega)
theorem SV.old2{m:kB}{s:qQ}{k:Int}(h:SV m s k)(h0:0<=m.activated):s.config.epoch<=m.activated:=by
 rcases h.cfg with h| ⟨_,h⟩
 ·rw[h];exact h0
 ·exact h
theorem aad{x:qN}(ok:FF 1048576 x)(hv:Ff x=some (true,())){k:Nat}{s:qQ}(hs:x.servers[k]? =some s): ∀e,e∈s.learned\/e∈s.log->e.epoch<=x.master.activated:=by
 have vc:=FJ ok hv;obtain⟨_,f2,_⟩:=OB (GS ok.2.2.1) vc.ml;have hlt:=yw hs;have sv:=Tz ok hv k hlt;rw[an hlt] at hs;rw[Option.some.inj hs] at sv;have oks:FN 1048576 s:=Option.some.inj hs ▸ ok.1.2 _ (dq hlt);obtain⟨_,_,_,_,_,_,f7,_⟩:=L4 oks sv.val
 rintro e (he|he)
 ·obtain⟨n,n1,n2⟩:=sv.lrn;exact Int.le_trans (XB (Fl oks.2.2) f7 n1 e he) n2
 ·exact Int.le_trans (adD oks sv.val e he) (sv.old2 f2)
def Lg(A:Int)(l:List sf):Prop:=F9 l=some (true,())/\ ∀e∈l,e.epoch<=A
section
variable {x:qN} {A:Int} (hd: ∀ (k:Nat) s,x.servers[k]? =some s-> ∀e,e∈s.learned\/e∈s.log->e.epoch<=A)
include hd
theorem adp(s0: (Int×Unit×Unit×Bool×Unit×Bool×Int×Unit×Int×Unit)×((Int×List qQ×List Int×List om×Int×Int×Int×Int×Int×List vB×Unit)×(Int×Int×Unit×Unit×Unit)×(Bool×Bool×Int×Int×Int×Int×List Int×List Int×Int×List sf×Int×List sf×Unit)×Unit)×List sf×List Int×List Int×Unit)
  (h1:s0.2.1.1=fx x) (hw: ∀e∈s0.2.1.2.2.1.2.2.2.2.2.2.2.2.2.1,e.epoch<=A) (h2:s0.1.2.2.2.1=true->Lg A s0.2.2.1):Ev (λe=>e.2.1.1=fx x/\(e.1.2.2.2.1=true->Lg A e.2.2.1)) (K7 s0):=by
 refine .loop (B:=GZ) (λs=>s.2.1.1=fx x/\(∀e∈s.2.1.2.2.1.2.2.2.2.2.2.2.2.2.1,e.epoch<=A)/\(s.1.2.2.2.1=true->Lg A s.2.2.1)) (λs hs=> ?_) ⟨h1,hw,h2⟩;obtain⟨i1,i2,i3⟩:=hs;unfold GZ;refine .br (λ_=> .ip λ_=> .bd λt ht=> ?_) λ_=> .ret ⟨i1,i3⟩
 extract_lets j66
 generalize hQ: (Sum.elim (λs: (Int×Unit×Unit×Bool×Unit×Bool×Int×Unit×Int×Unit)×((Int×List qQ×List Int×List om×Int×Int×Int×Int×Int×List vB×Unit)×(Int×Int×Unit×Unit×Unit)×(Bool×Bool×Int×Int×Int×Int×List Int×List Int×Int×List sf×Int×List sf×Unit)×Unit)×List sf×List Int×List Int×Unit=>s.2.1.1=fx x/\(∀e∈s.2.1.2.2.1.2.2.2.2.2.2.2.2.2.1,e.epoch<=A)/\(s.1.2.2.2.1=true->Lg A s.2.2.1)) (λe: (Int×Unit×Unit×Bool×Unit×Bool×Int×Unit)×((Int×List qQ×List Int×List om×Int×Int×Int×Int×Int×List vB×Unit)×(Int×Int×Unit×Unit×Unit)×Unit)×List sf×List Int×List Int×Unit=>e.2.1.1=fx x/\(e.1.2.2.2.1=true->Lg A e.2.2.1)))=Q;have keep:Ev Q (j66 s.2.2.1 s.1.2.2.2.1):=hQ ▸ .ret ⟨i1,i2,i3⟩;refine .brn (λ_=> .bd λ_ _=> .brn (λ_=> .ip λ_=> .bd λu hu=> .bind (adK u _) λy hy=> .bind (adQ _ _ _) λz hz=> .br (λhz2=> ?_) λ_=>keep) λ_=>keep) λ_=>keep
 have hu2: ∀e,e∈u.learned\/e∈u.log->e.epoch<=A:=by rw[i1] at hu;exact hd _ u hu
 have new:Ev Q (j66 z.1 true):=hQ ▸ .ret ⟨i1,i2,λ_=>⟨(hz hz2).1,λe he=>((hz hz2).2 e he).elim (λh=>hu2 e (hy e h)) (i2 e)⟩⟩;exact .brn (λ_=> .br (λ_=>new) λ_=>keep) λ_=>new
theorem abz(id:Int):Ev (λy=>y.2.1=true->Lg A y.1) (GH x id):=by unfold GH;refine .bd λy1 _=> .bind (.loop (B:=Gw) (E:=λe=>e.1.2.1=true->Lg A e.2.2.1) (λs=>s.2.1.1=fx x/\(s.1.2.2.2.1=true->Lg A s.2.2.1)) (λs hs=> ?_) ⟨rfl,nofun⟩) λe he=> .ret he;obtain⟨i1,i2⟩:=hs;unfold Gw;refine .br (λ_=> .br (λ_=> .bd λ_ _=> .br (λ_=> .bd λ_ _=> .br (λ_=> .ip λ_=> .bd λ_ _=> .ip λ_=> .bd λw hw=> .brn (λ_=> .brn (λ_=> .ip λ_=> .bd λ_ _=> .bd λ_ _=> .brn (λ_=> ?_) λ_=> .ret ⟨i1,i2⟩) λ_=> .ret ⟨i1,i2⟩) λ_=> .ret ⟨i1,i2⟩) λ_=> .ret i2) λ_=> .ret i2) λ_=> .ret i2) λ_=> .ret i2;rw[i1] at hw;exact .bind (adp hd _ i1 (λe he=>hd _ w hw e (.inr he)) i2) λe he=> .ret ⟨he.1,he.2⟩
end
theorem acg(x:qN)(ok:FF 1048576 x)(id:Int):Ev (λy=>y.2.1=true->Lg x.master.activated y.1) (Gp x id):=by
 unfold Gp;refine .bd λv hv=> .brn (λev=> .bd λ_ _=> .brn (λ_=> .br (λ_=> .ret λ_=>⟨Wb,nofun⟩) λ_=> .bd λn _=> .br (λ_=> .ip λ_=> .bd λs hs=> .bind (V9 _) λy hy=> .ret λ_=> ?_) λ_=> .bind (abz (A:=x.master.activated) (λk s hs=> ?_) id) λy hy=> .ret hy) λ_=> .ret nofun) λ_=> .ret nofun
 all_goals have hv:Ff x=some (true,()):=by rw[hv];exact congrArg some (Prod.ext ev rfl)
 ·show Lg _ y.1;rw[hy];have hlt:=yw hs;have sv:=Tz ok hv n.1.toNat hlt;rw[an hlt] at hs;rw[Option.some.inj hs] at sv;have oks:FN 1048576 s:=Option.some.inj hs ▸ ok.1.2 _ (dq hlt);exact⟨(L4 oks sv.val).2.2.2.2.2.1,λe he=>aad ok hv (k:=n.1.toNat) (by rw[an hlt];exact hs) e (.inr he)⟩
 ·exact aad ok hv hs
end
section
theorem aaa(c:om):Ev (λy=>y.1=c) (Ii c):=by unfold Ii;exact .ip λ_=> .ip λ_=> .ret rfl
structure Ins (s t:qQ) (c:om) (l:List sf) (n:Int):Prop where
 up:t.up=s.up
 intact:t.intact=true
 version:t.version=s.version
 epoch:t.epoch=c.epoch
 config:t.config=c
 first:t.first=if n=3 then ((cutAt l:Nat):Int) else 0
 log:t.log=if n=3 then l.drop (cutAt l) else l
 commit:t.commit=(l.length:Int)
 learned:t.learned= []
theorem aas{s:qQ}{c:om}{id n:Int}{l:List sf}(hn:F8 c id=some (n,()))(h0:n≠0)(hl:F9 l=some (true,()))(hlen:l.length<=1048576)(hv:1<=s.version/\s.version<=2)(he:0<=s.epoch/\s.epoch<=c.epoch)(hc:0<=c.epoch)(ha: ∀e∈l,e.epoch<=c.epoch)(hf:s.version=1->FO l=some (false,())):Ev (λy=>Ins s y.1 c l n) (Gj s c id l):=by
 have e0: (n==0)=false:=beq_eq_false_iff_ne.2 h0;unfold Gj;rw[hn,ak];show Ev _ (br (n==0) _ _);rw[e0,CU,hl,ak];show Ev _ ((Fo s.version 1 2).bind _);rw[FZ,Fj.2 hv,ak];show Ev _ ((Fo s.epoch 0 c.epoch).bind _);rw[FZ,Fj.2 he,ak];refine .bind (acv hc ha) λy9 h9=> .br (λh=>absurd (of_decide_eq_true h) (by omega)) λ_=> ?_
 extract_lets j18
 have hj:Ev (λy=>Ins s y.1 c l n) j18:=by
  unfold j18;refine .bind (aaa c) λy13 h13=> .bind (V9 l) λy14 h14=> .br (λh3=> ?_) λh3=> ?_
  ·have h3:n=3:=eq_of_beq h3;rw[Ul l hlen];refine .ip λ_=> .bind (V9 _) λy15 h15=> .ret ⟨rfl,rfl,rfl,rfl,h13,by rw[if_pos h3],?_,rfl,rfl⟩;rw[if_pos h3];show y15.1=_;rw[h15,cO,cO];exact bS (by rw[bR];omega)
  ·have h3: ¬n=3:=ne_of_beq_false h3;exact .ret ⟨rfl,rfl,rfl,rfl,h13,by rw[if_neg h3],by rw[if_neg h3];exact h14,rfl,rfl⟩
 refine .br (λh1=> ?_) λ_=>hj;rw[hf (eq_of_beq h1),ak];exact hj
structure Act0 (x y:qN) (c:om) (M:List Int) (l:List sf):Prop where
 chosen:HD x.master=some (c,true,())
 members:FV c=some (M,())
 newer:x.master.activated≠c.epoch
 now:y.now=x.now
 sides:y.sides=x.sides
 up:y.masterUp=x.masterUp
 places:y.places=x.places
 lease:y.lease=⟨0,0,0⟩
 master:y.master=⟨x.master.configs,c.epoch⟩
 isLog:Lg x.master.activated l
 mem: ∀z∈M,∃s t n,x.servers[z.toNat]? =some s/\s.up=true/\x.sides[z.toNat]? =some 0/\F8 c z=some (n,())/\y.servers[z.toNat]? =some t/\Ins s t c l n
 rest: ∀ (j:Nat) s,x.servers[j]? =some s->(∀z∈M,z.toNat≠j)-> ∃ep,y.servers[j]? =some (Nn s ep)/\SV x.master (Nn s ep) (j:Int)
 len:y.servers.length=x.servers.length
structure adH (x y:qN) (c:om) (M:List Int) (l:List sf):Prop extends Act0 x y c M l where
 source:Gp x c.primary=some (l,true,())
 sealed: ∃w,GC x c.primary c.epoch=some (w,())/\ ∀ (j:Nat) s,w.servers[j]? =some s->(∀z∈M,z.toNat≠j)->y.servers[j]? =some s
theorem abu{s:qQ}{id:Int}(hv:Fi s id=some (true,())):1<=s.version/\s.version<=2:=by
 unfold Fi at hv;rw[FZ,ak] at hv;cases h:HP s.version 1 2 with
 |true=>exact Fj.1 h
 |false=>rw[h] at hv;cases hv
theorem abv{l:List Int}(h:SS l){i j:Nat}{a b:Int}(hi:l[i]? =some a)(hj:l[j]? =some b)(hij:i<j):a<b:=by have hj':=yw hj;have hi':=yw hi;rw[an hi'] at hi;rw[an hj'] at hj;rw[<-Option.some.inj hi,<-Option.some.inj hj];exact EK.1 h i j hi' hj' hij
theorem Zr(x:qN)(ok:FF 1048576 x):Ev (λy=>y.2.1=0->Ff x=some (true,())/\ ∃c M l,adH x y.1 c M l) (HQ x):=by
 obtain⟨v,hv,_⟩:=FR x ok;obtain⟨c,b,c1,_,c3⟩:=MQ x.master (x.master.configs.length:Int) ok.2.2.1;unfold HQ;have hch:HD x.master=some (c,b,()):=by unfold HD;rw[c1];rfl
 rw[(GV x ok).1,ak,hch,ak,hv,ak];refine .brn (λev=> ?_) λ_=> .ret nofun;have ev:v=true:=ev;subst ev;have vc:=FJ ok hv;obtain⟨_,f2,f3⟩:=OB (GS ok.2.2.1) vc.ml;have f20:=Zj ok.2.2.1 vc.ml;refine .brn (λhb=> .br (λ_=> .ret nofun) λhne=> .br (λ_=> .ret nofun) λ_=> .ip λ_=> .bd λp _=> .brn (λ_=> .ip λ_=> .bd λ_ _=> .brn (λ_=> .bd λ_ _=> .brn (λ_=> ?_) λ_=> .ret nofun) λ_=> .ret nofun) λ_=> .ret nofun) λ_=> .ret nofun;have hb:b=true:=hb;subst hb;have hne:c.epoch≠x.master.activated:=ne_of_beq_false hne;obtain⟨c',b',q1,_,_,q4,q5,_⟩:=J1 x.master (x.master.configs.length:Int) ok.2.2.1 vc.ml;rw[c1] at q1;simp only[af,au,and_true] at q1;obtain⟨rfl,rfl⟩:=q1;obtain⟨cv,ce⟩:=q5 rfl;obtain⟨_,_,_,ce1,_⟩:=HV c3 cv;obtain⟨w,w1,_,okw,wv⟩:=ad1 x ok c.primary c.epoch;obtain⟨hvw,se,W,hW⟩:=wv hv;have vcw:=FJ okw hvw;rw[w1,ak];refine .bd λy8 h8=> .brn (λe8=> ?_) λ_=> .ret nofun;obtain⟨L,hasL,_⟩:=y8;have e8:hasL=true:=e8;subst e8;have lg:=acg x ok c.primary _ h8 rfl
 have Ll:L.length<=1048576:=by obtain⟨_,_,l',b',_,_,_,_,_,_,g,_,_,_,_,g2,_⟩:=Vi x ok c.primary;rw[h8] at g;simp only[af,au,and_true] at g;rw[g.1];exact g2
 obtain⟨M,m1,_,m3,m4,m5,m6⟩:=Mv c c3;have mm:M.length<=maxLen:=by unfold maxLen;omega
 rw[m1,ak];have sw: ∀k,k<M.length->IntKind.wrap .i64 ((k:Int)+1)=((k+1:Nat):Int):=λk hk=>kT mm hk
 refine .bind (.count (B:=H0) (E:=Sum.elim (λe=>e.1.2.2.1=10) λe=>e.2=((fx x,fz,fc w,(c.epoch,c.primary,(),(),()),()),L,M,w.servers,w.sides,w.master.configs,w.places,c.replicas,c.witnesses,())/\ ∀j z,j<M.length->M[j]? =some z-> ∃s,x.servers[z.toNat]? =some s/\s.up=true/\x.sides[z.toNat]? =some 0)
  (λk (_:Unit)=>(((),(),(),(),(),(),(k:Int),()),(fx x,fz,fc w,(c.epoch,c.primary,(),(),()),()),L,M,w.servers,w.sides,w.master.configs,w.places,c.replicas,c.witnesses,()))
  (λk _=>k<=M.length/\ ∀j z,j<k->M[j]? =some z-> ∃s,x.servers[z.toNat]? =some s/\s.up=true/\x.sides[z.toNat]? =some 0) (λk _ hJ=> ?_) (b:=()) ⟨bH _,λj z h=>absurd h (Fa j)⟩) λe he=> ?_
 ·refine .br (λh=> .ip λ_=> .bd λz hz=> .ip λ_=> .bd λs hs=> .brn (λhu=> .ip λ_=> .bd λz2 hz2=> .ip λ_=> .bd λsd hsd=> .brn (λe0=> ?_) λ_=> .ret rfl) λ_=> .ret rfl) λh=> .ret ⟨rfl,λj z hj=>hJ.2 j z ?_⟩
  ·have hk:k<M.length:=EH.1 (of_decide_eq_true h);have hz:M[k]? =some z:=hz;obtain rfl:z2=z:=Option.some.inj ((show M[k]? =some z2 from hz2).symm.trans hz);refine .ret ⟨(),by rw[sw k hk],hk,λj z' hj hz'=> ?_⟩;by_cases hjk:j=k
   ·subst hjk;obtain rfl:=Option.some.inj (hz.symm.trans hz');exact⟨s,hs,hu,by rw[hsd,eq_of_beq e0]⟩
   ·exact hJ.2 j z' (by omega) hz'
  ·have : ¬ ((k:Int)< (M.length:Int)):=of_decide_eq_false h;omega
 cases e with
 |inl e=>exact .ret λh=>absurd ((show e.1.2.2.1=10 from he).symm.trans h) (by decide)
 |inr e=>
 obtain⟨he,hup⟩:=he;show Ev _ ((KX (((),(),(),(),(),(),0,()),e.2)).bind _);rw[he]
 refine .bind (.count (B:=GU) (E:=Sum.elim (λe=>e.1.2.2.1=6) λe=>e.2=((fx x,fz,fc w,(c.epoch,c.primary,(),(),()),()),L,M,w.servers,w.sides,w.master.configs,w.places,c.replicas,c.witnesses,())/\ ∀j z,j<M.length->M[j]? =some z-> ∀s,x.servers[z.toNat]? =some s->s.version=1->FO L=some (false,()))
  (λk (_:Unit)=>(((),(),(),(),(),(),(k:Int),()),(fx x,fz,fc w,(c.epoch,c.primary,(),(),()),()),L,M,w.servers,w.sides,w.master.configs,w.places,c.replicas,c.witnesses,()))
  (λk _=>k<=M.length/\ ∀j z,j<k->M[j]? =some z-> ∀s,x.servers[z.toNat]? =some s->s.version=1->FO L=some (false,())) (λk _ hJ=> ?_) (b:=()) ⟨bH _,λj z h=>absurd h (Fa j)⟩) λe he=> ?_
 ·refine .br (λh=> .ip λ_=> .bd λz hz=> .ip λ_=> .bd λs hs=> ?_) λh=> .ret ⟨rfl,λj z hj=>hJ.2 j z ?_⟩
  ·have hk:k<M.length:=EH.1 (of_decide_eq_true h);have hz:M[k]? =some z:=hz
   have next: (s.version=1->FO L=some (false,()))->k+1<=M.length/\ ∀j z,j<k+1->M[j]? =some z-> ∀s,x.servers[z.toNat]? =some s->s.version=1->FO L=some (false,()):=λhn=>⟨hk,λj z' hj hz' s' hs' hv'=>by
    by_cases hjk:j=k
    ·subst hjk;obtain rfl:=Option.some.inj (hz.symm.trans hz');obtain rfl:=Option.some.inj ((show x.servers[z.toNat]? =some s from hs).symm.trans hs');exact hn hv'
    ·exact hJ.2 j z' (by omega) hz' s' hs' hv'⟩
   refine .br (λh1=> .bd λnf hnf=> .br (λ_=> .ret rfl) λh0=> .ret ⟨(),by rw[sw k hk],next λ_=> ?_⟩) λh1=> .ret ⟨(),by rw[sw k hk],next λh=>absurd h (ne_of_beq_false h1)⟩;exact (show FO L=some nf from hnf).trans (congrArg some (Prod.ext h0 rfl))
  ·have : ¬ ((k:Int)< (M.length:Int)):=of_decide_eq_false h;omega
 cases e with
 |inl e=>exact .ret λh=>absurd ((show e.1.2.2.1=6 from he).symm.trans h) (by decide)
 |inr e=>
 obtain⟨he,hnf⟩:=he;show Ev _ ((MO (((),(),(),(),(),(),0,()),e.2)).bind _);rw[he]
 refine .bind (.count (B:=H1) (E:=λe=> ∃S:List qQ,S.length=w.servers.length/\(∀ (j:Nat) s,w.servers[j]? =some s->(∀i z,i<M.length->M[i]? =some z->z.toNat≠j)->S[j]? =some s)/\(∀i z,i<M.length->M[i]? =some z-> ∃s t n,w.servers[z.toNat]? =some s/\F8 c z=some (n,())/\S[z.toNat]? =some t/\Ins s t c L n)/\e=(((),(),(),(),()),(fx x,fz,fc w,(c.epoch,c.primary,(),(),()),()),S,w.sides,w.master.configs,w.places,c.replicas,c.witnesses,()))
  (λk (S:List qQ)=>(((),(),(),(),(),(),(k:Int),()),(fx x,fz,fc w,(c.epoch,c.primary,(),(),()),()),L,M,S,w.sides,w.master.configs,w.places,c.replicas,c.witnesses,()))
  (λk S=>k<=M.length/\S.length=w.servers.length/\(∀ (j:Nat) s,w.servers[j]? =some s->(∀i z,i<k->M[i]? =some z->z.toNat≠j)->S[j]? =some s)/\ ∀i z,i<k->M[i]? =some z-> ∃s t n,w.servers[z.toNat]? =some s/\F8 c z=some (n,())/\S[z.toNat]? =some t/\Ins s t c L n) (λk S hJ=> ?_) (b:=w.servers) ⟨bH _,rfl,λ_ _ h _=>h,λi z h=>absurd h (Fa i)⟩) λe he=> ?_
 ·refine .br (λh=> .ip λ_=> .bd λz hz=> .ip λ_=> .bd λz1 hz1=> .ip λ_=> .bd λs hs=> .ip λ_=> .bd λz2 hz2=> .bd λs2 hs2=> .ip λ_=> .bd λs3 hs3=> .ip λ_=> .bd λs4 hs4=> .ip λ_=> .bd λs5 hs5=> .ip λ_=> ?_) λh=> .ret ⟨S,hJ.2.1,?_,?_,rfl⟩
  ·have hk:k<M.length:=EH.1 (of_decide_eq_true h);have hz:M[k]? =some z:=hz;obtain rfl:z1=z:=Option.some.inj ((show M[k]? =some z1 from hz1).symm.trans hz);obtain rfl:z2=z1:=Option.some.inj ((show M[k]? =some z2 from hz2).symm.trans hz);have hs:S[z2.toNat]? =some s:=hs;obtain rfl:s2=s:=Option.some.inj ((show S[z2.toNat]? =some s2 from hs2).symm.trans hs);obtain rfl:s3=s2:=Option.some.inj ((show S[z2.toNat]? =some s3 from hs3).symm.trans hs);obtain rfl:s4=s3:=Option.some.inj ((show S[z2.toNat]? =some s4 from hs4).symm.trans hs);obtain rfl:s5=s4:=Option.some.inj ((show S[z2.toNat]? =some s5 from hs5).symm.trans hs);have hzM:=ay hz;have hzr:=m4 z2 hzM
   have hws:w.servers[z2.toNat]? =some s5:=by
    have hlt:z2.toNat<w.servers.length:=by rw[vcw.len];omega
    have h2:=hJ.2.2.1 _ _ (an hlt) (λi z' hi hz' he=>by have:=abv m5 hz' hz hi;have:=m4 z' (ay hz');omega)
    rw[an hlt,<-h2,hs]
   have hlt:=yw hws;have svw:=Tz okw hvw z2.toNat hlt;rw[show w.servers[z2.toNat] =s5 from by rw[an hlt] at hws;exact Option.some.inj hws] at svw;have oks:=okw.1.2 s5 (ay hws);obtain⟨_,_,_,_,_,_,_,p1,_⟩:=L4 oks svw.val;have hep:=svw.ep;rw[se.master] at hep;obtain⟨n,n1,_,n3,_⟩:=YM c z2 c3 cv;have hn0:n≠0:=λh=>n3.1 h ((m6 cv z2).1 hzM)
   have hI:=aas (s:=s5) n1 hn0 lg.1 Ll (abu svw.val) ⟨p1,by omega⟩ (by omega) (λe he=>by have:=lg.2 e he;omega) (λh1=>by obtain⟨sx,sx1,_⟩:=Jp ok vc hzr;obtain⟨ep,g1⟩:=se.srv _ _ sx1;rw[hws] at g1;exact hnf k z2 hk hz sx sx1 (by rw[Option.some.inj g1] at h1;exact h1))
   show Ev _ ((Gj ⟨s5.up,s5.intact,s5.version,s5.epoch,⟨s5.config.epoch,s5.config.primary,(s5.config.replicas.drop 0).take s5.config.replicas.length,(s5.config.witnesses.drop 0).take s5.config.witnesses.length⟩,s5.first,(s5.log.drop 0).take s5.log.length,s5.commit,(s5.learned.drop 0).take s5.learned.length⟩ ⟨c.epoch,c.primary,c.replicas,c.witnesses⟩ z2 L).bind _);rw[cF,cF,cF,cF,EJ,EJ,EJ,EJ];refine .bind hI λy hy=> .ip λ_=> .bd λ_ _=> .ret ⟨S.set z2.toNat y.1,by rw[sw k hk],hk,by rw[EL];exact hJ.2.1,λj t ht hno=> ?_,λi z' hi hz'=> ?_⟩
   ·rw[EV (hno k z2 (cZ k) hz)];exact hJ.2.2.1 j t ht λi z' hi=>hno i z' (by omega)
   ·by_cases hik:i=k
    ·subst hik;obtain rfl:=Option.some.inj (hz.symm.trans hz');exact⟨s5,y.1,n,hws,n1,Fb (yw hs),hy⟩
    ·obtain⟨a,t,n',a1,a2,a3,a4⟩:=hJ.2.2.2 i z' (by omega) hz';have:=abv m5 hz' hz (by omega);have:=m4 z' (ay hz');exact⟨a,t,n',a1,a2,by rw[EV (by omega)];exact a3,a4⟩
  ·have : ¬ ((k:Int)< (M.length:Int)):=of_decide_eq_false h
   exactλj s hs hno=>hJ.2.2.1 j s hs λi z hi hz=>hno i z (yw hz) hz
  ·have : ¬ ((k:Int)< (M.length:Int)):=of_decide_eq_false h
   exactλi z hi hz=>hJ.2.2.2 i z (by omega) hz
 obtain⟨S,g1,g2,g3,rfl⟩:=he
 have hac:Ga x.master c.epoch=some (⟨x.master.configs,c.epoch⟩,true,()):=by unfold Ga;rw[(PE x.master ok.2.2.1).1,ak,vc.ml,ak,ce,beq_self_eq_true,jZ];rw[if_neg (by omega)];rfl
 show Ev _ ((Ga x.master c.epoch).bind _);rw[hac,ak];refine .ret λ_=>⟨rfl,c,M,L,⟨⟨hch,m1,λh=>hne h.symm,by rw[hW],se.sides,by rw[hW],by rw[hW],rfl,rfl,lg,λz hz=> ?_,λj s hs hno=> ?_,?_⟩,h8,⟨w,w1,λj s hs hno=>g2 j s hs λi z _ hz=>hno z (ay hz)⟩⟩⟩
 ·obtain⟨i,hi,rfl⟩:=aQ hz;have hg:M[i]? =some M[i] :=an hi;obtain⟨s,s1,s2,s3⟩:=hup i _ hi hg;obtain⟨s',t,n,t1,t2,t3,t4⟩:=g3 i _ hi hg;obtain⟨ep,u1⟩:=se.srv _ _ s1;rw[t1] at u1;have u1:=Option.some.inj u1;exact⟨s,t,n,s1,s2,s3,t2,t3,t4.up.trans (by rw[u1]),t4.intact,t4.version.trans (by rw[u1]),t4.epoch,t4.config,t4.first,t4.log,t4.commit,t4.learned⟩
 ·obtain⟨ep,u1⟩:=se.srv _ _ hs;refine⟨ep,g2 j _ u1 λi z _ hz=>hno z (ay hz),?_⟩;have hlt:=yw u1;have svw:=Tz okw hvw j hlt;rw[an hlt] at u1;rw[Option.some.inj u1,se.master] at svw;exact svw
 ·show S.length=x.servers.length;rw[g1,vcw.len,vc.len]
end
section
theorem X9{l:List sf}(hl:l.length<=maxLen)(h:F9 l=some (true,()))(n:Nat):F9 (l.drop n)=some (true,()):=by
 obtain⟨h1,h2⟩:=(O3 l hl).1 h;refine (O3 _ (by rw[bR];omega)).2 ⟨by rw[bR];omega,λk hk=> ?_⟩;rw[bR] at hk;have h3:=h2 (n+k) (by omega);unfold ZN at h3 ⊢;rw[bn];cases k with
 |zero=>rw[bL] at h3 ⊢;rw[an (by omega)] at h3 ⊢;simp at h3 ⊢;exact⟨h3.1,h3.2.1⟩
 |succ k=>rw[bn,show n+(k+1)-1=n+k from by omega,an (by omega),an (by omega)] at*;simp at h3 ⊢;exact h3
theorem aef{m:kB}(hl:m.configs.length<=maxLen)(h: ∀k (hk:k<m.configs.length),Fk m.configs[k] =some (true,())/\m.configs[k].epoch=(k:Int)+1)(ha:0<=m.activated/\m.activated<=(m.configs.length:Int)):Fv m=some (true,()):=by
 refine Tt.tru ?_;unfold Fv;refine .bind (.count (B:=FX) (E:=Sum.elim (λ_=>False) λe=>e.2.1.1=(m.configs,m.activated,())) m.configs.length (λk (_:Unit)=>(((),(k:Int),()),((m.configs,m.activated,()),()),())) (λ_ _=>True) (λ_ _=> .end (EI _) (.ret rfl)) (λk _ hk _=> .go (EH.2 hk) (.ip (EG k) ?_)) () trivial) λe he=> ?_
 ·have sw:=kT hl hk;have hk2:=h k hk;have hg:m.configs[k]? =some m.configs[k] :=an hk;generalize m.configs[k] =c at hg hk2;refine .get (tn hk) λc' hc' _=> ?_;obtain rfl:c'=c:=Option.some.inj ((show m.configs[k]? =some c' from hc').symm.trans hg);refine .bind (Q:=λy=>y.1=true) ⟨_,hk2.1,rfl⟩ λy hy=> .br (λh=>by rw[hy] at h;cases h) λ_=> .ip (EG k) (.get (tn hk) λd hd _=> .br (λhn=> ?_) λ_=> .ret ⟨(),by rw[sw],trivial⟩);obtain rfl:d=c':=Option.some.inj ((show m.configs[k]? =some d from hd).symm.trans hg);have hn: (!(d.epoch==IntKind.wrap .i64 ((k:Int)+1)))=true:=hn;rw[sw,hk2.2] at hn;simp at hn
 ·cases e with
  |inl e=>exact he.elim
  |inr e=>show Tt _ ((Fo e.2.1.1.2.1 0 (e.2.1.1.1.length:Int)).bind _);rw[show e.2.1.1=_ from he,FZ,Fj.2 ha];exact .ret rfl
theorem V8{m:kB}(ok:Mx 1048576 m)(hv:Fv m=some (true,())){a:Int}(hv':Fv ⟨m.configs,a⟩=some (true,()))(e:Int):G4 ⟨m.configs,a⟩ e=G4 m e:=by unfold G4;rw[hv,hv']
theorem aco{x:qN}(ok:FF 1048576 x)(hn:0<=x.now/\x.now<=999)(h5:x.servers.length=5)(hs:HS x.sides=some (true,()))(hm:Fv x.master=some (true,()))(hu:0<=x.masterUp/\x.masterUp<=3)(hl:HL x.lease=some (true,()))(hp:F0 x.places=some (true,()))(he:x.lease.epoch<=x.master.activated)(hS: ∀k (hk:k<x.servers.length),SV x.master x.servers[k] (k:Int)):Ff x=some (true,()):=by
 rcases W8 x ok with ⟨_,h1⟩| ⟨⟨k,hk,h0⟩,_⟩
 ·unfold Ff;rw[h1];simp only[FZ,Fj.2 hn,h5,hs,hm,Fj.2 hu,hl,hp,ak,Fg,DE,jZ,if_neg (show ¬x.lease.epoch>x.master.activated by omega)];rfl
 ·exact absurd (hS k hk) h0
theorem adW{c:om}(h:1<=c.epoch):c≠⟨0,0,[],[]⟩:=λe=>by rw[e] at h;exact absurd h (by decide)
theorem aar{s t:qQ}{c:om}{l:List sf}{n z:Int}(okt:FN 1048576 t)(h:Ins s t c l n)(hn:F8 c z=some (n,()))(h0:n≠0)(hl:F9 l=some (true,()))(hlen:l.length<=maxLen)(hv:1<=s.version/\s.version<=2)(hc:1<=c.epoch/\c.epoch<=20)(ha: ∀e∈l,e.epoch<=c.epoch):Fi t z=some (true,()):=by
 have h16:=((O3 l hlen).1 hl).1;have hcut:cutAt l<=l.length:=Nat.sub_le _ _
 have tlog:F9 t.log=some (true,()):=by
  rw[h.log];split
  ·exact X9 hlen hl _
  ·exact hl
 have tlen:t.first+(t.log.length:Int)=(l.length:Int)/\0<=t.first/\t.first<=16:=by
  rw[h.first,h.log];split
  ·rw[bR];omega
  ·omega
 obtain⟨e,e1,_⟩:=KB t.log (Fl okt.2.1)
 have he:e<=c.epoch:=(acv (by omega) (λx hx=>ha x (by
  rw[h.log] at hx;split at hx
  ·exact bw hx
  ·exact hx))) _ e1
 have hcv:=Fr okt.1;unfold Fi;rw[of (n:=t.first+(t.log.length:Int)) (by omega) (by omega),tlen.1,h.learned,Wb,tlog,h.version,h.epoch,h.commit,MN t.config hcv,h.config,hn,h.intact,e1];simp only[FZ,Fj.2 hv,Fj.2 (show 0<=c.epoch/\c.epoch<=20 by omega),Fj.2 tlen.2,Fj.2 (show 0<=(l.length:Int)/\(l.length:Int)<=16 by omega),Fj.2 (show 0<=(l.length:Int)/\(l.length:Int)<=(l.length:Int) by omega),ak,Fg,DE,jZ,if_neg (adW hc.1),if_neg (show ¬c.epoch<c.epoch by omega),if_neg (show ¬e>c.epoch by omega),show (n==0)=false from beq_eq_false_iff_ne.2 h0,CU];by_cases h3:n=3
 ·have hf:t.first=((cutAt l:Nat):Int):=by rw[h.first,if_pos h3]
  have hg: (t.log.length:Int)=(l.length:Int)-((cutAt l:Nat):Int):=by omega
  rw[show (n==3)=true from beq_iff_eq.2 h3,DE,if_pos (by rw[hg];unfold cutAt;omega),Io];split
  ·rfl
  ·next hne=>
   rw[hf];have :cutAt l=0:=by unfold cutAt at*;omega
   rw[this];rfl
 ·have hf:t.first=0:=by rw[h.first,if_neg h3]
  rw[show (n==3)=false from beq_eq_false_iff_ne.2 h3,CU,hf];rfl
theorem Act0.cfg{x y:qN}{c:om}{M:List Int}{l:List sf}(ok:FF 1048576 x)(hv:Ff x=some (true,()))(h:Act0 x y c M l):GA maxLen c/\Fk c=some (true,())/\c.epoch=(x.master.configs.length:Int)/\x.master.activated<c.epoch/\Fv y.master=some (true,())/\G4 y.master c.epoch=some (c,true,())/\(∀z∈M,0<=z/\z<5)/\(∀z,z∈M↔z∈c.replicas\/z∈c.witnesses):=by
 have vc:=FJ ok hv;obtain⟨f1,f2,f3⟩:=OB (GS ok.2.2.1) vc.ml;obtain⟨c',b',q1,_,q3,_,q5,_⟩:=J1 x.master (x.master.configs.length:Int) ok.2.2.1 vc.ml;have hch:=h.chosen;unfold HD at hch;rw[q1] at hch;simp only[ak,af,au,and_true] at hch;obtain⟨rfl,rfl⟩:=hch;obtain⟨cv,ce⟩:=q5 rfl;have hne:=h.newer
 have hm:Fv y.master=some (true,()):=by rw[h.master];exact aef (GS ok.2.2.1).1 f1 ⟨by show 0<=c'.epoch;omega,by show c'.epoch<=(x.master.configs.length:Int);omega⟩
 obtain⟨M',m1,_,_,m4,_,m6⟩:=Mv c' q3;obtain rfl:M'=M:=(Prod.mk.inj (Option.some.inj (m1.symm.trans h.members))).1;refine⟨q3,cv,ce,by omega,hm,?_,m4,m6 cv⟩;rw[h.master] at hm ⊢;rw[V8 ok.2.2.1 vc.ml hm,ce];exact q1
theorem Xa{x y:qN}{c:om}{M:List Int}{l:List sf}(ok:FF 1048576 x)(hv:Ff x=some (true,()))(oky:FF 1048576 y)(hl:l.length<=maxLen)(h:Act0 x y c M l):Ff y=some (true,()):=by
 have vc:=FJ ok hv;obtain⟨c3,cv,ce,ca,hm,hat,m4,m6⟩:=h.cfg ok hv;obtain⟨_,_,_,e1,e20,_⟩:=HV c3 cv;have hcfg:y.master.configs=x.master.configs:=by rw[h.master]
 have hact:y.master.activated=c.epoch:=by rw[h.master]
 refine aco oky (by rw[h.now];exact vc.now) (by rw[h.len];exact vc.len) (by rw[h.sides];exact vc.sides) hm (by rw[h.up];exact vc.up) (by rw[h.lease];rfl) (by rw[h.places];exact vc.places) (by rw[h.lease,hact];show (0:Int)<=_;omega) λk hk=> ?_;have hk':k<x.servers.length:=by rw[<-h.len];exact hk
 have sv:=Tz ok hv k hk';by_cases hM: ∃z∈M,z.toNat=k
 ·obtain⟨z,hz,rfl⟩:=hM;obtain⟨s,t,n,s1,_,_,n1,t1,hI⟩:=h.mem z hz;have hz4:=m4 z hz;have ez: ((z.toNat:Nat):Int)=z:=by omega
  rw[an hk] at t1;rw[Option.some.inj t1,ez];rw[an hk'] at s1;rw[Option.some.inj s1] at sv;have okt:FN 1048576 t:=Option.some.inj t1 ▸ oky.1.2 _ (dq hk);obtain⟨n',n1',_,n3,_⟩:=YM c z c3 cv;obtain rfl:n'=n:=(Prod.mk.inj (Option.some.inj (n1'.symm.trans n1))).1;refine⟨aar okt hI n1 (λh0=>n3.1 h0 ((m6 z).1 hz)) h.isLog.1 hl (abu sv.val) ⟨e1,e20⟩ λe he=>by have:=h.isLog.2 e he;omega,by rw[hI.epoch,hcfg];omega,⟨0,by rw[hI.learned];rfl,by rw[hact];omega⟩,.inr ?_⟩;rw[hI.config,hact];exact⟨hat,c9 _⟩
 ·obtain⟨ep,t1,svw⟩:=h.rest k _ (an hk') λz hz e=>hM ⟨z,hz,e⟩;rw[an hk] at t1;rw[Option.some.inj t1];obtain⟨n,n1,n2⟩:=svw.lrn;refine⟨svw.val,by rw[hcfg];exact svw.ep,⟨n,n1,by rw[hact];omega⟩,svw.cfg.imp id λhc=>⟨?_,by rw[hact];have:=hc.2;omega⟩⟩;rw[h.master] at hm ⊢;rw[V8 ok.2.2.1 vc.ml hm];exact hc.1
theorem abj{y:qN}{c:om}{M:List Int}{t:qQ}(oky:FF 1048576 y)(kg:Ff y=some (true,()))(hla:Fm y.master=some (c,true,()))(hm:FV c=some (M,()))(t1:y.servers[c.primary.toNat]? =some t)(hpn:FT t c.primary=some (true,()))(he:t.config.epoch=c.epoch)(hh: ∀z∈M,HU y c.primary z=some (true,())):FY y=some (c.primary,()):=by
 have fm:Ev (λr=>r.1=c.primary) (FY y):=by
  unfold FY;rw[hla,ak,kg,ak];refine .brn (λ_=> .brn (λ_=> .ip λ_=> .bd λp hp=> ?_) nofun) nofun;obtain rfl:p=t:=Option.some.inj ((show y.servers[c.primary.toNat]? =some p from hp).symm.trans t1);show Ev _ ((FT p c.primary).bind _);rw[hpn,ak];refine .brn (λ_=> .ip λ_=> .bd λp2 hp2=> ?_) nofun;obtain rfl:p2=p:=Option.some.inj ((show y.servers[c.primary.toNat]? =some p2 from hp2).symm.trans t1);refine .brn (λ_=> ?_) λhf=>absurd (show (p2.config.epoch==c.epoch)=true by rw[he,beq_self_eq_true]) (by rw[show (p2.config.epoch==c.epoch)=false from hf];decide);show Ev _ ((FV c).bind _);rw[hm,ak];refine .bind (.loop (B:=Gv) (E:=Sum.elim (λ_=>False) λe=>e.2.1.1.2.1=c.primary) (λs=>s.2=((fx y,(c.epoch,c.primary,(),(),()),()),M,c.replicas,c.witnesses,())) (λs hs=> ?_) rfl) λe he=> ?_
  ·obtain⟨a,b⟩:=s;have hs:b=_:=hs;subst hs;refine .br (λ_=> .ip λ_=> .bd λz hz=> ?_) λ_=> .ret rfl;show Ev _ ((HU y c.primary z).bind _);rw[hh z (ay (show M[_]? =some z from hz)),ak];exact .brn (λ_=> .ret rfl) nofun
  ·cases e with
   |inl e=>exact he.elim
   |inr e=>exact .ret he
 obtain⟨r,r1,_⟩:=QT y oky;rw[r1,show r=c.primary from fm _ r1]
structure Srv (y:qN) (c:om) (M:List Int) (t:qQ):Prop where
 act:Fm y.master=some (c,true,())
 mem:FV c=some (M,())
 at':y.servers[c.primary.toNat]? =some t
 now:FT t c.primary=some (true,())
 ep:t.config.epoch=c.epoch
 rng:0<=c.primary/\c.primary<5
 hear: ∀z∈M,HU y c.primary z=some (true,())
theorem adh{x y:qN}{c:om}{M:List Int}{l:List sf}(ok:FF 1048576 x)(hv:Ff x=some (true,()))(oky:FF 1048576 y)(hl:l.length<=maxLen)(h:Act0 x y c M l): ∃t,Srv y c M t:=by
 have kg:=Xa ok hv oky hl h;have vcy:=FJ oky kg;obtain⟨c3,cv,ce,ca,hm,hat,m4,m6⟩:=h.cfg ok hv;obtain⟨_,_,cp,_⟩:=HV c3 cv;have hpM:=(m6 c.primary).2 (.inl cp);have hp4:=m4 _ hpM;obtain⟨s,t,n,s1,s2,s3,n1,t1,hI⟩:=h.mem _ hpM
 have n1':F8 c c.primary=some (1,()):=by unfold F8;rw[cv,ak,beq_self_eq_true];rfl
 obtain rfl:n=1:=(Prod.mk.inj (Option.some.inj (n1.symm.trans n1'))).1;have hlt:=yw t1;have ez: ((c.primary.toNat:Nat):Int)=c.primary:=by omega
 have sv:=Tz oky kg _ hlt;have t1':=t1;rw[an hlt] at t1';rw[Option.some.inj t1',ez] at sv
 have hla:Fm y.master=some (c,true,()):=by unfold Fm;rw[show y.master.activated=c.epoch by rw[h.master],hat];rfl
 have hpn:FT t c.primary=some (true,()):=by unfold FT;rw[sv.val,ak,hI.up,s2,hI.config,n1',ak,hI.epoch];show some ((c.epoch==c.epoch),())=_;rw[beq_self_eq_true]
 have tl:t.log=l:=by rw[hI.log,if_neg (by decide)]
 have hh: ∀z∈M,HU y c.primary z=some (true,()):=λz hz=>by have hz4:=m4 z hz;obtain⟨sz,tz,nz,z1,z2,z3,z4,z5,hZ⟩:=h.mem z hz;rw[(acu y oky vcy hp4 hz4).1];unfold Un IX;rw[h.sides,s3,z3,z5,t1];simp only[hZ.up,z2,hZ.epoch,hI.epoch,hZ.commit,tl,hZ.config,hI.config,beq_self_eq_true,Bool.and_self,c9,decide_true]
 exact⟨t,hla,h.members,t1,hpn,by rw[hI.config],hp4,hh⟩
theorem Zq{x y:qN}{c:om}{M:List Int}{l:List sf}(ok:FF 1048576 x)(hv:Ff x=some (true,()))(oky:FF 1048576 y)(hl:l.length<=maxLen)(h:Act0 x y c M l):FY y=some (c.primary,()):=by obtain⟨t,ht⟩:=adh ok hv oky hl h;exact abj oky (Xa ok hv oky hl h) ht.act ht.mem ht.at' ht.now ht.ep ht.hear
end
section
def Gr(l:vz)(e h n:Int)(g:vz):Prop:=g.epoch=e/\g.holder=h/\(1<=e/\e<=20)/\(0<=h/\h<=4)/\(0<=n/\n<=999)/\n<g.ends/\g.ends<=1049/\(l.epoch=e->l.holder=h->l.ends<=g.ends)
theorem Gr.ok{l g:vz}{e h n:Int}(hg:Gr l e h n g):HK g=some (true,())/\HB g n=some (false,())/\RR g e h n=some (decide (n+3<g.ends),()):=by
 obtain⟨rfl,rfl,h1,h2,h3,h4,h5,_⟩:=hg;have hz: (g.ends==0)=false:=beq_eq_false_iff_ne.2 (by omega)
 have il:HK g=some (true,()):=by unfold HK;simp only[hz,Fe,Bool.and_false,CU,Kz,Fj.2 h1,Fj.2 h2,Fj.2 (show 1<=g.ends/\g.ends<=1049 by omega),ak,DE]
 refine⟨il,?_,?_⟩
 ·unfold HB Mb;simp only[il,Kz,Fj.2 h3,ak,DE,Fg,hz,Fe,Bool.and_false,CU,Io,jZ];rw[of (n:=g.ends+3) (by omega) (by omega)];simp only[show ¬g.ends=0 by omega,if_false,ak,decide_eq_false (show ¬n≥g.ends+3 by omega)]
 ·unfold RR;simp only[il,Kz,Fj.2 h3,ak,DE,Fg,hz,Fe,Bool.and_false,CU,Io,if_true];rw[of (n:=n+3) (by omega) (by omega)]
section
variable [dL]
end
end
section
theorem Gr.lease{l g:vz}{e h n:Int}(hg:Gr l e h n g):HL g=some (true,()):=by obtain⟨rfl,rfl,h1,h2,h3,h4,h5,_⟩:=hg;have hz: (g.epoch==0)=false:=beq_eq_false_iff_ne.2 (by omega);unfold HL;rw[hz,Fe,CU,FZ,Fj.2 h1,ak];show br true ((Fo g.holder 0 4).bind _) _=_;rw[DE,FZ,Fj.2 h2,ak];show br true ((Fo g.ends 1 1049).bind _) _=_;rw[DE,FZ,Fj.2 (show 1<=g.ends/\g.ends<=1049 by omega)];rfl
theorem acd{y:qN}{n:Int}(h:FY y=some (n,()))(hn:0<=n):H3 y=some (true,()):=by unfold H3;rw[h,ak,decide_eq_true (show n≥0 from hn)]
end
section
theorem adP{s:qQ}{id n:Int}(ok:FN 1048576 s)(hv:Fi s id=some (true,()))(hn:F8 s.config id=some (n,())):Jn s id=some (n==1||n==2,()):=by
 have hc:=Fr ok.1;obtain⟨v,v1,_⟩:=HH s.config hc;unfold Jn;rw[(FI s.config.replicas id hc.1).2,ak]
 have fm:id∈s.config.replicas↔(n==1||n==2)=true:=by
  unfold F8 at hn;simp only[v1,(FI s.config.replicas id hc.1).1,(FI s.config.witnesses id hc.2).1,ak,Fg] at hn;have out: ∀ {k:Int},some (k,())=some (n,())->n=k:=λe=>((Prod.mk.inj (Option.some.inj e)).1).symm;refine XZ hn (λev hn=>XZ hn (λhe hn=> ?_) λ_ hn=>XZ hn (λhr hn=> ?_) λhr hn=> ?_) λev hn=> ?_
  ·rw[out hn];subst ev;exact⟨λ_=>rfl,λ_=>by rw[eq_of_beq he];exact (HV hc v1).2.2.1⟩
  ·rw[out hn];exact⟨λ_=>rfl,λ_=>of_decide_eq_true hr⟩
  ·have hno:id∉s.config.replicas:=of_decide_eq_false hr;refine⟨λh=>absurd h hno,λh=> ?_⟩;refine XZ hn (λ_ hn=> ?_) λ_ hn=> ?_
   ·rw[out hn] at h;exact absurd h (by decide)
   ·rw[out hn] at h;exact absurd h (by decide)
  ·rw[out hn];refine⟨λh=> ?_,λh=>absurd h (by decide)⟩;rcases abt ok hv with e|e
   ·rw[e] at h;cases h
   ·rw[v1] at e;have e:=(Prod.mk.inj (Option.some.inj e)).1;rw[e] at ev;cases ev
 rw[show decide (id∈s.config.replicas)=(n==1||n==2) from by rw[bU];simp only[decide_eq_true_eq];exact fm]
end
section
theorem Q8(a b:List sf)(ha:a.length<=maxLen): ∃n:Nat,He a b=some ((n:Int),())/\n<=a.length/\n<=b.length/\a.take n=b.take n/\(n<a.length->n<b.length->a[n]? ≠b[n]?):=by
 rcases O9 (B:=Hu) a.length (λk=>((a,b,(k:Int),()),(),())) ((((a.length:Nat):Int),()),(),()) (λk=>(((k:Int),()),(),())) (λk=>decide (a[k]? ≠b[k]?))
  (by simp only[Hu];rw[jZ,if_neg (by omega)])
  (λk hk=>by
    have c1: (k:Int)< (a.length:Int):=by omega
    have c2: (0:Int)<=(k:Int):=by omega
    by_cases hk':k<b.length
    ·have c3: (k:Int)< (b.length:Int):=by omega
     simp only[Hu,aai,jZ,C9,if_pos c1,if_pos c2,if_pos c3,cO,an hk,an hk',ak,kT ha hk];by_cases h:a[k] =b[k]<;>simp[h]
    ·have c3: ¬ (k:Int)< (b.length:Int):=by omega
     simp only[Hu,jZ,if_pos c1,if_neg c3,an hk,cz (show b.length<=k by omega)];simp) with ⟨k1,k2⟩| ⟨i,hi,k1,k2,k3⟩
 ·have eq: ∀k,k<a.length->a[k]? =b[k]? :=λk hk=>by simpa using k2 k hk
  have hl:a.length<=b.length:=by
   rcases bu a.length with h|h
   ·omega
   ·have:=eq (a.length-1) (by omega);rw[an (by omega)] at this;have:=yw this.symm;omega
  refine⟨a.length,?_,az _,hl,?_,λh=>absurd h (dI _)⟩
  ·unfold He;rw[show Mq ((a,b,0,()),(),())=_ from k1];rfl
  ·refine bE λk=> ?_;rw[bz,bz];split
   ·exact eq k (by assumption)
   ·rfl
 ·have eq: ∀k,k<i->a[k]? =b[k]? :=λk hk=>by simpa using k3 k hk
  have hl:i<=b.length:=by
   rcases bu i with h|h
   ·omega
   ·have:=eq (i-1) (by omega);rw[an (by omega)] at this;have:=yw this.symm;omega
  refine⟨i,?_,by omega,hl,?_,λ_ _=>by simpa using k2⟩
  ·unfold He;rw[show Mq ((a,b,0,()),(),())=_ from k1];rfl
  ·refine bE λk=> ?_;rw[bz,bz];split
   ·exact eq k (by assumption)
   ·rfl
theorem abN{a b:List sf}(ha:a.length<=maxLen)(h: ∀ (i:Nat) e,a[i]? =some e->b[i]? =some e):Ma a b=some (true,()):=by
 obtain⟨n,n1,n2,n3,_,n5⟩:=Q8 a b ha
 have hn:n=a.length:=by
  rcases Nat.lt_or_eq_of_le n2 with hlt|e
  ·have hb:=h n _ (an hlt);exact absurd ((an hlt).trans hb.symm) (n5 hlt (yw hb))
  ·exact e
 unfold Ma;rw[n1,ak,hn,beq_self_eq_true]
theorem Xf(a:List sf)(ha:a.length<=maxLen):Ma a a=some (true,()):=abN ha λ_ _ h=>h
end
section
theorem cpU(a b:List sf)(ha:a.length<=maxLen)(hb:b.length<=maxLen): ∃n:Nat,Gy a b=some ((n:Int),())/\He b a=some ((n:Int),())/\n<=b.length:=by
 obtain⟨n,n1,n2,n3,n4,n5⟩:=PD a b ha;obtain⟨m,m1,m2,m3,m4,m5⟩:=Q8 b a hb
 have at': ∀ {x y:List sf} {k i:Nat},x.take k=y.take k->i<k->x[i]? =y[i]? :=λ{x y k i} h hi=>by have h2:=List.getElem?_take_of_lt (l:=x) hi;rw[h,List.getElem?_take_of_lt hi] at h2;exact h2.symm
 have e:n=m:=by
  rcases Nat.lt_trichotomy n m with h|h|h
  ·exact absurd (at' m4 h).symm (n5 (by omega) (by omega))
  ·exact h
  ·exact absurd (at' n4 h).symm (m5 (by omega) (by omega))
 subst e;exact⟨n,n1,m1,n3⟩
theorem Z3(x:qN)(ok:FF 1048576 x)(c:om)(okc:GA 1048576 c): ∃n,Kb x c=some (n,())/\J4 x c=some (n,()):=by
 have cm:=Fr okc;obtain⟨v,v1,v2⟩:=FR x ok;obtain⟨u,u1,u2⟩:=HH c cm;obtain⟨_,_,l,b,_,_,_,_,_,_,l1,l2,_,_,_,lL,_⟩:=Vi x ok c.primary;unfold Kb J4;simp only[v1,u1,u2,l1,l2,ak,Fg];cases v with
 |false=>
  have hb:b=false:=by unfold Gp at l1;rw[v1] at l1;exact ((Prod.mk.inj (Prod.mk.inj (Option.some.inj l1)).2).1).symm
  subst hb;cases u<;>exact⟨-1,rfl,rfl⟩
 |true=>
 cases u with
 |false=>exact⟨-1,rfl,rfl⟩
 |true=>
 cases b with
 |false=>exact⟨-1,rfl,rfl⟩
 |true=>
 have vc:=FJ ok v1;have ca:=(HV cm u1).1;have c5:=ca.len;have lm:=Fl lL
 obtain⟨n,_,k1,k2⟩:=ND (B1:=H8) (B2:=H6) c.replicas.length (λk (n:Int)=>(((),(),(),n,(k:Int),()),(fx x,(c.epoch,c.primary,c.replicas,c.witnesses,()),()),l,())) (λk n=>(((),(),n,c.replicas,(c.replicas.length:Int),(k:Int),()),(fx x,()),l,())) (λk n=>0<=n/\n<=(k:Int)*1048576) (λn=>((n,()),(),())) (λn=>((n,()),(),()))
  (λn _=>⟨by simp only[H8];rw[jZ,if_neg (by omega)],by simp only[H6];rw[jZ,if_neg (by omega)]⟩)
  (λk n hk hn=>by
    have q1: (k:Int)< (c.replicas.length:Int):=by omega
    have q2: (0:Int)<=(k:Int):=by omega
    have hg:c.replicas[k]? =some c.replicas[k] :=an hk;have hz:=K0 ca _ (dq hk);generalize c.replicas[k] =z at hg hz;obtain⟨s,s1,s2,s3⟩:=Jp ok vc hz;obtain⟨r,r1,_⟩:=OT s.config z (Fr s2.1);have rep:=adP s2 s3 r1;obtain⟨p,p1,p2,p3⟩:=cpU s.learned l (Fl s2.2.2) lm;obtain⟨q,w1,w2,w3⟩:=cpU s.log l (Fl s2.2.1) lm
    obtain⟨m,hm,hm2⟩: ∃m:Nat,(if (q:Int)>(p:Int) then (q:Int) else (p:Int))=(m:Int)/\m<=l.length:=by
     split
     ·exact⟨q,rfl,w3⟩
     ·exact⟨p,rfl,p3⟩
    have val: ∀m:Nat,m<=l.length->IntKind.wrap .i64 (IntKind.wrap .i64 (n+(l.length:Int))-(m:Int))=n+(l.length:Int)-(m:Int)/\IntKind.wrap .i64 (n+IntKind.wrap .i64 ((l.length:Int)-(m:Int)))=n+(l.length:Int)-(m:Int)/\0<=n+(l.length:Int)-(m:Int)/\n+(l.length:Int)-(m:Int)<=((k+1:Nat):Int)*1048576:=λm hm=>by rw[of (n:=n+(l.length:Int)) (by omega) (by omega),of (n:=(l.length:Int)-(m:Int)) (by omega) (by omega),of (n:=n+(l.length:Int)-(m:Int)) (by omega) (by omega),of (n:=n+((l.length:Int)-(m:Int))) (by omega) (by omega)];refine⟨rfl,by omega,by omega,by omega⟩
    obtain⟨f1,f2,f3⟩:=val m hm2;obtain⟨g1,g2,g3⟩:=val p p3;simp only[H8,H6,fx,jZ,Io,C9,if_pos q1,if_pos q2,cO,hg,ak,if_pos hz.1,s1,p1,p2,r1,rep,w1,w2,kT cm.1 hk,hm,f1,f2,g1,g2];by_cases h1:r=1
    ·subst h1;exact⟨_,rfl,rfl,f3⟩
    ·by_cases h2:r=2
     ·subst h2;exact⟨_,rfl,rfl,f3⟩
     ·simp only[if_neg h1,if_neg h2,show (r==1)=false from beq_eq_false_iff_ne.2 h1,show (r==2)=false from beq_eq_false_iff_ne.2 h2,Bool.or_self,CU];exact⟨_,rfl,rfl,g3⟩) 0 ⟨c9 _,by omega⟩
 simp only[DE];rw[show Pb (((),(),(),0,0,()),(fx x,(c.epoch,c.primary,c.replicas,c.witnesses,()),()),l,())=_ from k1,show O8 (((),(),0,c.replicas,(c.replicas.length:Int),0,()),(fx x,()),l,())=_ from k2];exact⟨n,rfl,rfl⟩
section
variable [dL]
theorem abJ{x:Hd}{l:List Int}(h:ly x=some l)(hl:l.length<=maxLen)(hb: ∀m∈l,0<=m/\m<=255):Tt (λy=>FF 1048576 y.1) (J7 x):=by
 unfold J7;refine .dn (abd h hl hb) λc1 _ h1 _=> .dn (Uk h1) λc2 y h2 hy=> .ip rfl (.dn (IR h2 _) λc3 _ h3 _=> .ip rfl (.br (λ_=> .dn (abD h3 _) λc4 z h4 hz=> .ip rfl (.bind (Q3 y.1 hy.1 z.1 ⟨?_,?_⟩) λw hw=> .ret hw.1)) λ_=> .ret hy.1))
 ·have:=hz.2.1;omega
 ·have:=hz.2.2.1;omega
theorem aah{x:Hd}{l:List Int}(h:ly x=some l)(hl:l.length<=maxLen)(hb: ∀m∈l,0<=m/\m<=255):Tt (λy=>FF 1048576 y.1/\GA 1048576 y.2.1) (IM x):=by unfold IM QX;refine .bind (Q:=λy=>FF 1048576 y.1/\GA 1048576 y.2.1) (.dn (abd h hl hb) λc1 _ h1 _=> .dn (Uk h1) λc2 y h2 hy=> .ip rfl (.dn (X0 h2) λc3 z h3 hz=> .ip rfl (.dn (IR h3 _) λc4 _ h4 _=> .ip rfl ?_))) λy hy=> .ret hy;exact .br (λ_=> .ret ⟨hy.1,hz⟩) λ_=> .ret ⟨hy.1,hz⟩
theorem Uh(x:Hd)(l:List Int)(h:ly x=some l)(hl:l.length<=maxLen)(hb: ∀m∈l,0<=m/\m<=255):LJ x=some (true,()):=by
 refine Tt.tru ?_;unfold LJ;refine .bind (Q:=T1) (by unfold aal;exact .ret trivial) λ_ _=> .br (λ_=> .ret rfl) λ_=> .bind (abJ h hl hb) λa ha=> ?_;obtain⟨y,n,s1,i1,oky,_⟩:=Z8 a.1 ha;rw[i1,s1,ak,ak,beq_self_eq_true];refine .br nofun λ_=> ?_;rw[adN y oky,ak];refine .br nofun λ_=> .bind (aah h hl hb) λd hd=> ?_;obtain⟨p,k,u1,u2,okp,_⟩:=XN d.1 hd.1 d.2.1 hd.2;obtain⟨tc,t1,t2⟩:=Z3 d.1 hd.1 d.2.1 hd.2;simp only[u1,u2,t1,t2,adN p okp,ak,beq_self_eq_true,dk,CU];rw[Fg];refine .br (λh0=> ?_) λ_=> .ret rfl;obtain⟨hv,c,M,lg,ac⟩:=Zr a.1 ha _ s1 (eq_of_beq h0)
 have hlg:lg.length<=1048576:=by obtain⟨_,_,l',b',_,_,_,_,_,_,g,_,_,_,_,g2,_⟩:=Vi a.1 ha c.primary;have:=ac.source;rw[g] at this;simp only[af,au,and_true] at this;rw[<-this.1];exact g2
 have ac:adH a.1 y c M lg:=ac;obtain⟨c3,cv,ce,ca,hm,hat,m4,m6⟩:=ac.cfg ha hv;have vc:=FJ ha hv;have hlen:y.servers.length=5:=ac.len.trans vc.len;obtain⟨a1,_,cp,_⟩:=HV c3 cv;have hp:=K0 a1 _ cp
 have hla:Fm y.master=some (c,true,()):=by unfold Fm;rw[show y.master.activated=c.epoch by rw[ac.master],hat];rfl
 obtain⟨M',n1,_,n3,_⟩:=Mv c c3;obtain rfl:M'=M:=(Prod.mk.inj (Option.some.inj (n1.symm.trans ac.members))).1;have mm:M'.length<=maxLen:=by unfold maxLen;omega
 have member: ∀z∈M',∃t,y.servers[z.toNat]? =some t/\t.epoch=c.epoch/\t.config=c/\t.commit=(lg.length:Int)/\0<=t.first/\t.first<=(lg.length:Int)/\t.log=lg.drop t.first.toNat/\(z=c.primary->t.log=lg):=λz hz=>by
  obtain⟨s,t,k,_,_,_,k1,k2,hI⟩:=ac.mem z hz;have hcut:cutAt lg<=lg.length:=Nat.sub_le _ _;refine⟨t,k2,hI.epoch,hI.config,hI.commit,?_,?_,?_,λe=> ?_⟩
  ·rw[hI.first];split<;>omega
  ·rw[hI.first];split<;>omega
  ·rw[hI.first,hI.log];split
   ·rw[cO]
   ·rfl
  ·obtain⟨k',q1,_,_,q4⟩:=YM c z c3 cv;obtain rfl:k'=k:=(Prod.mk.inj (Option.some.inj (q1.symm.trans k1))).1;rw[hI.log,if_neg λh3=>q4 h3 e]
 obtain⟨t0,ht0,_,_,_,_,_,_,htl⟩:=member c.primary ((m6 _).2 (.inl cp));have htl:t0.log=lg:=htl rfl;rw[hla,ak,ac.members,ak];refine .ip (by show 0<=c.primary/\c.primary< (y.servers.length:Int);omega) ?_;show Tt _ ((y.servers[c.primary.toNat]?).bind _);rw[ht0,ak];refine .bind (.count (B:=JW) (E:=Sum.elim (λ_=>False) λe=>e=(((),(),()),(fc y,()),y.servers,y.sides,y.master.configs,y.places,())) M'.length (λk (_:Unit)=>(((),(),(),(c.primary.toNat,0,t0.log.length),(k:Int),()),(fc y,(c.epoch,c.primary,(),(),()),()),M',y.servers,y.sides,y.master.configs,y.places,c.replicas,c.witnesses,())) (λ_ _=>True) (λ_ _=> .end (EI _) (.ret rfl)) (λk _ hk _=> ?_) () trivial) λe he=> ?_
 ·refine .go (EH.2 hk) (.ip ⟨EG k,EH.2 hk⟩ (.get (tn hk) λz _ hz=> ?_));have hz5:=m4 z hz;obtain⟨t,ht,g1,g2,g3,g4,g5,g6,_⟩:=member z hz;refine .ip (by show 0<=z/\z< (y.servers.length:Int);omega) ?_;dsimp only;simp only[ht,ht0,htl,ak,cF,EJ,aM,g1,g3,beq_self_eq_true];have okt:=oky.1.2 t (ay ht)
  have e1: (lg.drop t.first.toNat).take ((lg.length:Int).toNat-t.first.toNat)=t.log:=by rw[g6];exact bS (by rw[bR];omega)
  refine .br nofun λ_=> .br nofun λ_=> .ip ⟨g4,g5,c9 _⟩ (.ip (az _) (.ip (by omega) ?_));rw[e1,Xf t.log (Fl okt.2.1)];refine .br nofun λ_=> .ip (az _) (.ip (az _) ?_);rw[show Gi _ _=_ from (GD t.config c (Fr okt.1)).2,ak,decide_eq_true g2];exact .br nofun λ_=> .ret ⟨(),by rw[kT mm hk],trivial⟩
 ·cases e with
  |inl e=>exact he.elim
  |inr e=>obtain rfl:=he;obtain⟨b,b1,b2⟩:=ZC y oky;have hs:=acd (Zq ha hv oky (Fl hlg) ac.toAct0) hp.1;rw[hs] at b1;obtain rfl:=(Prod.mk.inj (Option.some.inj b1)).1;show Tt _ ((Lh y).bind _);rw[b2,ak];refine .br (λ_=> .ret ?_) nofun;show ((y.lease.epoch==0)&&((y.lease.holder==0)&&((y.lease.ends==0)&&true)))=true;rw[ac.lease];rfl
end
end
end Go.Proofs.YtkghndikalnipaaGreat.En
