/- Plain laws. -/
import Derived.Test.YtkghndikalnipaaGreatZPT4
set_option linter.unusedSimpArgs false
set_option linter.unusedVariables false
namespace Go.Proofs.YtkghndikalnipaaGreat.En
open Go
section
theorem CB(m:eC)(h:tf 1048576 m)(c:ey)(hc:jh 1048576 c):Tt (λy=>tf 1048576 y.1/\y.1.configs.length<=m.configs.length+1) (jZ m c):=by
 have self:tf 1048576 m/\m.configs.length<=m.configs.length+1:=⟨h,ci _⟩
 obtain⟨b,b1,_⟩:=masterLog m (np h);obtain⟨d,d1,_⟩:=oG c (fu hc);unfold jZ;rw[(IK m h).1,ae,b1,ae,ej];refine .br (λe=> ?_) λ_=> .ret self;subst e;have hl:=X1 h b1;rw[d1,ae,ej];refine .br (λ_=> ?_) λ_=> .ret self;rw[ej];refine .br (λ_=> ?_) λ_=> .ret self;rw[(x0 c hc).1,ae];have h2: (m.configs++ [c]).length<=21:=by rw[ax,az];omega
 exact .ip (aP (bg 64 h2) (by omega)) (.ret ⟨⟨aP h2 (by omega),λd hd=>(aW.1 hd).elim (h.2 d) λe=>by rw[aD.1 e];exact hc⟩,by show (m.configs++ [c]).length<=_;rw[ax];exact au _⟩)
theorem BR(x:eh)(ok:gD 1048576 x)(c:ey)(hc:jh 1048576 c):Tt (λy=>Kp x y.1) (kF x c):=by unfold kF;rw[(jQ x ok).1,ae];refine .bind (qe x ok) λv _=> ?_;rw[ej];refine .br (λ_=> .br (λ_=> .ret (.self ok)) λ_=> .bind (CB x.master ok.2.2.1 c hc) λm hm=> ?_) λ_=> .ret (.self ok);rw[ej];exact .br (λ_=> .ret ⟨⟨ok.1,ok.2.1,hm.1,ok.2.2.2⟩,rfl⟩) λ_=> .ret (.self ok)
theorem V0(x:eh)(ok:gD 1048576 x)(n:Int):Tt (λy=>Kp x y.1) (pX x n):=by unfold pX;rw[(jQ x ok).1,ae];refine .bind (qe x ok) λv _=> ?_;rw[ej];refine .br (λ_=> ?_) λ_=> .ret (.self ok);rw[ia,ae,ej];exact .br (λ_=> .ret ⟨ok,rfl⟩) λ_=> .ret (.self ok)
theorem V2(x:eh)(ok:gD 1048576 x)(id:Int):Tt (λy=>y.1=true->VC x/\0<=id/\id<5) (l9 x id):=by obtain⟨b,b1,_,b2⟩:=IL x id ok;exact⟨_,b1,λe=>⟨jR ok (b2 e).1,(b2 e).2⟩⟩
theorem Sr(x:eh)(ok:gD 1048576 x)(id:Int):Tt (λy=>Kp x y.1) (lU x id):=by unfold lU;rw[(jQ x ok).1,ae];refine .bind (V2 x ok id) λv hv=> ?_;rw[ej];refine .br (λe=> ?_) λ_=> .ret (.self ok);obtain⟨vc,hid⟩:=hv e;refine .srv ok vc hid λs _ _ _=> .br (λ_=> .ret (.self ok)) λ_=> .srv ok vc hid λt _ _ _=> ?_;rw[ej];exact .br (λ_=> .at vc.len hid λu _ hu=> .ret ((Kp.self ok).set (s:=⟨u.up,u.intact,2,u.epoch,u.config,u.first,u.log,u.commit,u.learned⟩) (ok.1.2 u hu) _)) λ_=> .ret (.self ok)
theorem MX(x:eh)(ok:gD 1048576 x)(id:Int):Tt (λy=>Kp x y.1) (kp x id):=by
 unfold kp;rw[(jQ x ok).1,ae];refine .bind (V2 x ok id) λv hv=> ?_;rw[ej];refine .br (λe=> ?_) λ_=> .ret (.self ok);obtain⟨vc,hid⟩:=hv e;refine .srv ok vc hid λs _ _ _=> .br (λ_=> .ret (.self ok)) λ_=> .srv ok vc hid λt _ _ _=> ?_;rw[ej];refine .br (λ_=> .srv ok vc hid λs _ s2 _=> .bind (Q:=T1) ?_ λ_ _=> .br (λ_=> .ret (.self ok)) λ_=> .bind (.count (B:=ko) (E:=Sum.elim (λe=> ∃n:Int,e=((id,(),n,(),()),(fc x,fc x,()),x.servers,x.sides,x.master.configs,x.places,())) λe=>e=((id,(),(),(),()),(fz,fc x,()),x.servers,x.sides,x.master.configs,x.places,())) x.servers.length (λk (_:Unit)=>((id,(),(),(),(),(k:Int),()),(fx x,fz,fc x,YV s,()),x.servers,x.sides,x.master.configs,x.places,())) (λ_ _=>True) (λ_ _=> .end (aZ _) (.ret rfl)) (λk _ hk _=> ?_) () trivial) λe he=> ?_) λ_=> .ret (.self ok)
 ·unfold kY;exact .bind (De _ (eW s2.2.2)) λ_ _=> .ret trivial
 ·have sw:=ei (eW ok.1.1) hk;refine .go (aH.2 hk) ?_;rw[show l7 _=_ from AK s.config (fu s2.1),ae,ej];refine .br (λ_=> .ret rfl) λ_=> .ip (ay k) (.get (tn hk) λt _ ht=> ?_);have ht:=ok.1.2 t ht;rw[show iu _ _=_ from (iX t.config s.config (fu ht.1)).1,ae];refine .br (λ_=> .ip (ay k) (.get (tn hk) λu _ hu=> .bind (Q:=T1) ?_ λ_ _=> .br (λ_=> .ret ⟨_,rfl⟩) λ_=> .ret ⟨(),by rw[sw],trivial⟩)) λ_=> .ret ⟨(),by rw[sw],trivial⟩;unfold kY;exact .bind (De _ (eW (ok.1.2 u hu).2.1)) λ_ _=> .ret trivial
 cases e with
 |inl e=>obtain⟨n,rfl⟩:=he;exact .ret (.self ok)
 |inr e=>obtain rfl:=he;exact .at vc.len hid λu _ hu=> .ret ((Kp.self ok).set (s:=⟨u.up,u.intact,1,u.epoch,u.config,u.first,u.log,u.commit,u.learned⟩) (ok.1.2 u hu) _)
theorem Ss(x:eh)(ok:gD 1048576 x):Tt T1 (kZ x):=by
 obtain⟨c,b,c1,c2,c3⟩:=MW x ok;unfold kZ;rw[c1,ae];refine .bind (qe x ok) λv hv=> ?_;rw[ej];refine .br (λh=> ?_) λ_=> .ret trivial;have vc:=hv h;rw[ej];refine .br (λhb=> ?_) λ_=> .ret trivial;obtain⟨_,_,_,_,hp,_⟩:=c3 vc;have hp:=(hp hb).2;refine .srv ok vc hp λs _ s2 _=> ?_;obtain⟨d,d1,_⟩:=ot s c.primary s2;rw[d1,ae,ej];refine .br (λ_=> .srv ok vc hp λt _ _ _=> ?_) λ_=> .ret trivial;rw[ej];refine .br (λ_=> .bind (va c c2) λm hm=> .bind (.count (B:=lF) (E:=λ_=>True) m.1.length (λk (_:Unit)=>(((),(),(),(k:Int),()),(fx x,(c.epoch,c.primary,(),(),()),()),m.1,c.replicas,c.witnesses,())) (λ_ _=>True) (λ_ _=> .end (aZ _) (.ret trivial)) (λk _ hk _=> .go (aH.2 hk) (.ip ⟨ay k,aH.2 hk⟩ (.get (tn hk) λz _ hz=> .bind (Sg ok vc hp (hm.2 z hz)) λy _=> ?_))) () trivial) λe _=> ?_) λ_=> .ret trivial
 ·rw[ej];exact .br (λ_=> .ret ⟨(),by rw[ei (by have:=hm.1;unfold maxLen;omega) hk],trivial⟩) λ_=> .ret trivial
 ·cases e<;>exact .ret trivial
theorem Om(x:eh)(ok:gD 1048576 x):Tt T1 (oD x):=by unfold oD;exact .bind (Ss x ok) λ_ _=> .ret trivial
section
variable {l:List fB} (hl:l.length<=maxLen) (hv:fT l=some (true,()))
include hl hv
theorem W6(m:List Int)(hm:tg m):Tt (λy=>y.1.length<=5) (uI l m):=by have h5:=BP hl hv;have ml:=hm.len;unfold uI;refine .bind (.count (B:=tJ) (E:=λe=>e.2.2.1.length<=5) m.length (λk (b:List Int)=>((l,m,(),(k:Int),()),(),b,())) (λk b=>b.length<=k/\SS b) (λb hb=> .end (aZ _) (.ret (aP hb.1 ml))) (λk b hk hb=> ?_) [] ⟨au _,List.Pairwise.nil⟩) λy hy=> .ret hy;refine .go (aH.2 hk) ?_;dsimp only;rw[hv,ae,(yb hm).1,ae];refine .br (λ_=> .br (λ_=> .ip (ay k) (.get (tn hk) λz _ hz=> .ip (qv hm z hz).1 (.get (by have:=qv hm z hz;omega) λp _ _=> ?_))) (λh=>by cases h)) (λh=>by cases h);obtain⟨r,r1,r2,_,r4,_⟩:=UB b p.rack (by omega) hb.2;rw[r1,ae];exact .ret ⟨r,by rw[ei (by unfold maxLen;omega) hk],by omega,r2⟩
theorem Yf(i:Int):Tt T1 (uJ l i):=by have h5:=BP hl hv;unfold uJ;rw[hv,ae,ia,ae];refine .br (λ_=> .br (λh=> ?_) λ_=> .ret trivial) λ_=> .ret trivial;have h:=fe.1 h;exact .ip h.1 (.get (by omega) λ_ _ _=> .ip h.1 (.get (by omega) λ_ _ _=> .ret trivial))
theorem UM(r:List Int)(hr:r.length<=5){a b:Int}(ha:0<=a/\a<5)(hb:0<=b/\b<5):Tt T1 (sH l r a b):=by
 have h5:=BP hl hv;have rm:r.length<=maxLen:=by unfold maxLen;omega
 unfold sH;refine .ip ha.1 (.get (by omega) λp _ _=> ?_);rw[(gP r p.rack rm).1,ae];refine .ip hb.1 (.get (by omega) λq _ _=> ?_);rw[(gP r q.rack rm).1,ae,ej];exact .br (λ_=> .ip ha.1 (.get (by omega) λ_ _ _=> .ip hb.1 (.get (by omega) λ_ _ _=> .ret trivial))) λ_=> .ret trivial
theorem Su(m d:List Int)(hm:tg m)(hd:d.length<=maxLen):Tt (λy=>y.1= -1\/(0<=y.1/\y.1<5/\y.1∉m)) (oC l m d):=by
 have ml:m.length<=maxLen:=by have:=hm.len;unfold maxLen;omega
 unfold oC;refine .bind (W6 hl hv m hm) λr hr=> .bind (.count (B:=qj) (E:=λe=>e.1.1= -1\/(0<=e.1.1/\e.1.1<5/\e.1.1∉m)) 5 (λk (b:Int)=>((l,m,d,b,(),(k:Int),()),(),r.1,())) (λ_ b=>b= -1\/(0<=b/\b<5/\b∉m)) (λb hb=> .end (aZ _) (.ret hb)) (λk b hk hb=> ?_) (-1) (.inl rfl)) λy hy=> .ret hy;have hkk:0<=(k:Int)/\(k:Int)<5:=⟨ay k,aH.2 hk⟩
 refine .go hkk.2 ?_;dsimp only;rw[(yb hm).1,ae,ei (n:=5) (by decide) hk];refine .br (λ_=> .bind (Yf hl hv k) λy _=> ?_) (λh=>by cases h);rw[ej,(gP m k ml).1,(gP d k hd).1];refine .br (λ_=> .br (λ_=> .ret ⟨b,rfl,hb⟩) λhn=> .br (λ_=> .ret ⟨b,rfl,hb⟩) λ_=> ?_) λ_=> .ret ⟨b,rfl,hb⟩;have hn: (k:Int)∉m:=of_decide_eq_false hn;refine .br (λ_=> .ret ⟨(k:Int),rfl,.inr ⟨hkk.1,hkk.2,hn⟩⟩) λh0=> ?_;have h0: ¬b<0:=of_decide_eq_false h0;exact .bind (UM hl hv r.1 hr hkk (by omega)) λ_ _=> .br (λ_=> .ret ⟨(k:Int),rfl,.inr ⟨hkk.1,hkk.2,hn⟩⟩) λ_=> .ret ⟨b,rfl,hb⟩
omit hv in
theorem Yg(m a:List Int)(hm:tg m)(ha:tg a)(want:Int):Tt (λy=>tg y.1) (nB l m a want):=by
 have am:a.length<=maxLen:=by have:=ha.len;unfold maxLen;omega
 obtain⟨v,v1,_⟩:=u7 l hl;have nil:tg [] :=λk hk=>by simp at hk
 unfold nB;rw[AI m a hm am,Fj _ a Oe am,ae,ae,v1,ae,ej,(yb hm).1,(yb ha).1];refine .br (λe=> .br (λh=>by cases h) λ_=> .br (λh=>by cases h) λ_=> ?_) λ_=> .ret nil;subst e;rw[ia,ae,ej];refine .br (λ_=> ?_) λ_=> .ret nil;have dl:=(Oe.filter λx=> !decide (x∈a)).len;have dm: (([0,1,2,3,4]:List Int).filter λx=> !decide (x∈a)).length<=maxLen:=by unfold maxLen;omega
 generalize ([0,1,2,3,4]:List Int).filter (λx=> !decide (x∈a))=dead at dm;refine .bind (.loop (B:=nU) (E:=Sum.elim (λe=>tg e.2.2.1) λe=>tg e.2.2.1) (λs=> ∃out:List Int,s=((l,want,(),(),()),(),out,dead,())/\tg out) (λs=>(want-s.2.2.1.length).toNat) ?_ ⟨_,rfl,hm.filter _⟩) λy hy=> ?_
 ·rintro _ ⟨out,rfl,ho⟩
  have ol:=ho.len;refine .br (λc=> ?_) λ_=> .ret ho;have c: (out.length:Int)<want:=of_decide_eq_true c;refine .bind (Su hl v1 out dead ho dm) λn hn=> .br (λ_=> .ret ho) λh=> ?_;have h: ¬n.1<0:=of_decide_eq_false h
  obtain⟨n0,n5,nm⟩:0<=n.1/\n.1<5/\n.1∉out:=by
   rcases hn with h'|h'
   ·omega
   ·exact h'
  obtain⟨r,r1,r2,r3,_,r5⟩:=UB out n.1 (by omega) ho.pair;rw[show kM _ _=_ from r1,ae];refine .ret ⟨⟨r,rfl,xw r2 λy hy=>((r3 y).1 hy).elim (λe=>by rw[e];exact⟨n0,n5⟩) (qv ho y)⟩,?_⟩;show (want-(r.length:Int)).toNat< (want-(out.length:Int)).toNat;have:=r5 nm;omega
 ·cases y with
  |inl y=>exact .ret hy
  |inr y=>exact .ret hy
end
theorem V3(x:eh)(ok:gD 1048576 x)(want wit:Int):Tt (λy=>jh 1048576 y.1) (ne x want wit):=by
 have zero:jh 1048576 ⟨0,0,[],[]⟩:=⟨aB _,aB _⟩
 obtain⟨v,v1,_⟩:=jo x ok;unfold ne;rw[v1,ae,ej];refine .br (λe=> ?_) λ_=> .ret zero;subst e;have vc:=jR ok v1;rw[ia,ae,ej];refine .br (λ_=> ?_) λ_=> .ret zero;rw[ia,ae,ej];refine .br (λ_=> .br (λ_=> .ret zero) λ_=> ?_) λ_=> .ret zero;obtain⟨c,b,c1,c2,c3⟩:=MW x ok;obtain⟨r5,w5,inr,_,_,rasc⟩:=c3 vc;have rm:c.replicas.length<=maxLen:=by unfold maxLen;omega
 rw[X0 x ok v1,ae,c1,ae];have up:=Od (IR x) (n:=5) (by omega);generalize AL (IR x) 5=u at up;have um:u.length<=maxLen:=by have:=up.len;unfold maxLen;omega
 refine .bind (.count (B:=o8) (E:=λe=> ∃have':List Int,tg have'/\e=((want,wit,(),(),(),(),(),()),(fx x,(0,0,(),(),()),(c.epoch,c.primary,(),(),()),()),u,have',c.replicas,c.witnesses,())) c.replicas.length (λk (b:List Int)=>((want,wit,(),(),(),(),(),(k:Int),()),(fx x,(0,0,(),(),()),(c.epoch,c.primary,(),(),()),()),u,b,c.replicas,c.witnesses,())) (λk b=>b.Sublist (c.replicas.take k)) (λb hb=> .end (aZ _) (.ret ⟨b,?_,rfl⟩)) (λk b hk hb=> ?_) [] (List.nil_sublist _)) ?_
 ·rw[bq] at hb;exact xw (rasc.pair.sublist hb) λy hy=>inr y (hb.subset hy)
 ·have sw:=ei rm hk;have st:b.Sublist (c.replicas.take (k+1)):=hb.trans (List.take_sublist_take_left (ci k));refine .go (aH.2 hk) (.ip ⟨ay k,aH.2 hk⟩ (.get (tn hk) λz _ hz=> ?_));rw[show fI _ _=_ from (gP u z um).1,ae];refine .br (λ_=> .ip ⟨ay k,aH.2 hk⟩ (.get (tn hk) λz2 _ hz2=> .srv ok vc (inr z2 hz2) λs _ _ _=> .br (λ_=> .ip ⟨ay k,aH.2 hk⟩ (.get (tn hk) λz3 e3 _=> ?_)) λ_=> .ret ⟨b,by rw[sw],st⟩)) λ_=> .ret ⟨b,by rw[sw],st⟩;have e3:c.replicas[k]? =some z3:=e3
  have h2: (b++ [z3]).Sublist (c.replicas.take (k+1)):=by rw[bI,e3];exact hb.append (List.Sublist.refl _)
  have h3:=h2.length_le;rw[aR] at h3;exact .ip (by show (b++ [z3]).length*8<=2 ^ 40;omega) (.ret ⟨b++ [z3],by rw[sw],h2⟩)
 ·rintro _ ⟨hv,ha,rfl⟩
  refine .bind (Yg (eW ok.2.2.2) hv u ha up want) λp hp=> .br (λ_=> .ret zero) λh0=> ?_;have pl:=hp.len
  have p0:0<p.1.length:=by
   rcases bk p.1.length with h|h
   ·rw[h] at h0;cases h0
   ·exact h
  refine .ip ⟨bU _,aH.2 p0⟩ (.get p0 λq _ _=> ?_);rw[show fI _ _=_ from (gP p.1 c.primary (by unfold maxLen;omega)).1,ae];have gC: ∀w:List Int,w.length<=1-> ∀ (e p':Int) (d:Bool),Tt (λy:ey×Bool×Unit=>jh 1048576 y.1) (some (⟨e,p',p.1,w⟩,d,())):=λw hw _ _ _=> .ret ⟨by show p.1.length<=_;omega,by show w.length<=_;omega⟩
  extract_lets j43
  have h43: ∀p',Tt (λy=>jh 1048576 y.1) (j43 p'):=λp'=>by unfold j43;refine .br (λ_=> ?_) λ_=>gC [] (by decide) _ _ _;rw[show gm _ _=_ from Fj _ u Oe um,ae];refine .bind (Su (eW ok.2.2.2) vc.places p.1 _ hp ?_) λ_ _=> .br (λ_=>gC [_] (au 1) _ _ _) λ_=>gC [] (by decide) _ _ _;have:=(Oe.filter λx=> !decide (x∈u)).len;exact aP this (by unfold maxLen;omega)
  refine .br (λ_=> ?_) λ_=>h43 _;rw[show l7 _=_ from AK c c2,ae];exact .br (λ_=>h43 _) λ_=>h43 _
theorem Sv(x:eh)(ok:gD 1048576 x)(id t:Int):Tt (λy=>Kp x y.1) (nc x id t):=by obtain⟨n,n1,n2⟩:=Lg x ok id;unfold nc;rw[(jQ x ok).1,ae,n1,ae,ej];refine .br (λe=> ?_) λ_=> .ret (.self ok);obtain⟨hv,h0,h5⟩:=n2 (eq_of_beq e);have vc:=jR ok hv;have s5:=s8 (eW ok.2.1) vc.sides;refine .srv ok vc ⟨h0,h5⟩ λs _ s2 _=> ?_;obtain⟨b,b1,_⟩:=ot s id s2;rw[b1,ae,ej];refine .br (λ_=> .br (λ_=> .ret (.self ok)) λ_=> .ip h0 (.get (by omega) λ_ _ _=> ?_)) λ_=> .ret (.self ok);rw[ej];refine .br (λ_=> ?_) λ_=> .ret (.self ok);rw[ej];refine .br (λ_=> ?_) λ_=> .ret (.self ok);obtain⟨l,d,g1,_⟩:=MR x.lease s.config.epoch id x.now t;rw[g1,ae,ej];exact .br (λ_=> .ret ⟨ok,rfl⟩) λ_=> .ret (.self ok)
theorem UN(x:eh)(ok:gD 1048576 x)(want term:Int):Tt (λy=>Kp x y.1) (nG x want term):=by unfold nG;rw[(jQ x ok).1,ae];refine .bind (qe x ok) λv _=> ?_;rw[ej];refine .br (λ_=> ?_) λ_=> .ret (.self ok);rw[ia,ae,ej];refine .br (λ_=> .bind (Om x ok) λ_ _=> .br (λ_=> .ret (.self ok)) λ_=> .bind (V3 x ok want 0) λn hn=> ?_) λ_=> .ret (.self ok);rw[ej];refine .br (λ_=> .bind (BR x ok n.1 hn) λy hy=> ?_) λ_=> .ret (.self ok);rw[ej];refine .br (λ_=> ?_) λ_=> .ret (.self ok);obtain⟨t,t1,_⟩:=La x.lease;rw[t1,ae];refine .bind (V0 y.1 hy.1 _) λz hz=> ?_;rw[ej];refine .br (λ_=> .bind (BQ z.1 hz.1) λa ha=> ?_) λ_=> .ret (.self ok);rw[ej];exact .br (λ_=> .bind (Sv a.1 ha.1 _ _) λr hr=> .ret (hy.trans (hz.trans (ha.trans hr)))) λ_=> .ret (hy.trans (hz.trans ha))
theorem YY(x:eh)(ok:gD 1048576 x)(to:Int):Tt (λy=>y.1=0->VC x) (qJ x to):=by obtain⟨c,b,c1,c2,c3⟩:=MW x ok;unfold qJ;rw[c1,ae];refine .bind (qe x ok) λv hv=> ?_;rw[ej];refine .br (λh=> ?_) λ_=> .ret nofun;have vc:=hv h;have s5:=s8 (eW ok.2.1) vc.sides;rw[ej];refine .br (λhb=> ?_) λ_=> .ret nofun;obtain⟨r5,_,_,_,hp,_⟩:=c3 vc;have hp:=(hp hb).2;rw[(gP c.replicas to (by unfold maxLen;omega)).1,ae,ej];refine .br (λ_=> .br (λ_=> .ret nofun) λ_=> ?_) λ_=> .ret nofun;rw[ej];refine .br (λ_=> .br (λ_=> .ret nofun) λ_=> .br (λ_=> .ret nofun) λ_=> .bind (Om x ok) λ_ _=> ?_) λ_=> .ret nofun;rw[ej];refine .br (λ_=> .ip hp.1 (.get (by show c.primary.toNat<x.sides.length;omega) λ_ _ _=> ?_)) λ_=> .ret nofun;rw[ej];refine .br (λ_=> .br (λ_=> ?_) λ_=> .ret λ_=>vc) λ_=> .ret nofun;rw[ej];exact .br (λ_=> .ret λ_=>vc) λ_=> .ret nofun
theorem UO(x:eh)(ok:gD 1048576 x)(to:Int):Tt (λy=>Kp x y.1) (lV x to):=by
 obtain⟨c,b,c1,c2,c3⟩:=MW x ok;unfold lV;rw[(jQ x ok).1,ae];refine .bind (YY x ok to) λn hn=> ?_;rw[ej];refine .br (λh=> ?_) λ_=> .ret (.self ok);obtain⟨r5,w5,_⟩:=c3 (hn (eq_of_beq h));rw[c1,ae];refine .bind (Ok x ok c.primary) λy hy=> ?_;have hy':Kp x ⟨y.1.now,y.1.servers,y.1.sides,y.1.master,y.1.masterUp,⟨0,0,0⟩,y.1.places⟩:=⟨hy.1,hy.2⟩
 exact .bind (BR _ hy'.1 ⟨_,to,c.replicas,c.witnesses⟩ ⟨by show c.replicas.length<=_;omega,by show c.witnesses.length<=_;omega⟩) λz hz=> .bind (BQ z.1 hz.1) λw hw=> .ret (hy'.trans (hz.trans hw))
end
section
theorem Tt.byte{α:Type}{Q:α->Prop}{b:ByteArray}{i:Nat}{k:UInt8->Option α}(hi:i<b.size)(h: ∀x,Tt Q (k x)):Tt Q ((b[i]?).bind k):=by rw[getElem?_pos b i hi];exact h _
theorem Fn(b:Int): (Ov ((([b]:List Int).drop 0).take ([b]:List Int).length)).size=1:=rfl
theorem lI(n:Int)(h:n.natAbs<=1000):Tt (λy=>y.1.size<=1001) (iG n):=by
 unfold iG;refine .br (λ_=> .ret (by decide)) λ_=> .bind (.loop (B:=qo) (E:=λe=>e.1.1.size<=1000) (λs=>s.1.2.1.size+s.1.1.natAbs<=1000) (λs=>s.1.1.natAbs) ?_ (by simpa using h)) λy hy=> .br (λ_=> .ip ?_ (.ret ?_)) λ_=> .ret (aP hy (by omega))
 ·rintro⟨⟨n,acc,neg,_⟩,_,_⟩ hs
  have hs:acc.size+n.natAbs<=1000:=hs;refine .br (λh0=> ?_) λ_=> .ret (by show acc.size<=1000;omega);have h0:n≠0:=λe=>by rw[e] at h0;cases h0
  have ha: (Int.tdiv n 10).natAbs=n.natAbs / 10:=Int.natAbs_tdiv n 10;have hw:IntKind.wrap .i64 (Int.tdiv n 10)=Int.tdiv n 10:=fm (by omega) (by omega);dsimp only;rw[hw];refine .br (λ_=> .ip ⟨eb,au _⟩ (.ip (by rw[Fn];omega) (.ret ⟨?_,?_⟩))) λ_=> .ip ⟨eb,au _⟩ (.ip (by rw[Fn];omega) (.ret ⟨?_,?_⟩))
  all_goals first
   | (show (_++acc).size+(Int.tdiv n 10).natAbs<=1000;rw[ByteArray.size_append,Fn];omega)
   | (show (Int.tdiv n 10).natAbs<n.natAbs;omega)
 ·show (⟨⟨[45]⟩⟩:ByteArray).size+y.1.1.size<=2 ^ 40;have : (⟨⟨[45]⟩⟩:ByteArray).size=1:=rfl;omega
 ·show ((⟨⟨[45]⟩⟩:ByteArray)++y.1.1).size<=1001;have : (⟨⟨[45]⟩⟩:ByteArray).size=1:=rfl;rw[ByteArray.size_append];omega
theorem W7{o:Op}(h:UI o=true): (0<=o.client/\o.client<=2)/\(1<=o.seq/\o.seq<=99)/\(0<=o.object/\o.object<=2)/\(0<=o.value/\o.value<=9)/\(o.kind≠1->0<=o.old/\o.old<=9):=by
 obtain⟨h1,h2,h4⟩:=Sd h;have h3:=IV (show fJ o=some (true,()) by rw[vK,h]);refine⟨fe.1 h1,fe.1 h2,h3,fe.1 h4,λhk=> ?_⟩;have h0:fJ o=some (true,()):=by rw[vK,h]
 unfold fJ at h0;simp only[ia,ae,h1,h2,h4,fe.2 h3,bQ,fg,beq_eq_false_iff_ne.2 hk] at h0;cases hk2: (o.kind==2) with
 |false=>rw[hk2] at h0;cases h0
 |true=>rw[hk2] at h0;simp only[eI,af,ao,and_true] at h0;exact fe.1 h0
theorem PF(o:Op):Tt (λy=>y.1.size<=10000) (sO o):=by
 unfold sO;rw[vK,ae,ej];refine .br (λh=> ?_) λ_=> .ret (by decide);obtain⟨n1,n2,n3,n4,n5⟩:=W7 h;have e1: (⟨⟨[46]⟩⟩:ByteArray).size=1:=rfl;have e2: (⟨⟨[32]⟩⟩:ByteArray).size=1:=rfl;have e3: (⟨⟨[119,114,105,116,101,32]⟩⟩:ByteArray).size=6:=rfl;have e4: (⟨⟨[115,119,97,112,32]⟩⟩:ByteArray).size=5:=rfl;refine .bind (lI _ (by omega)) λa ha=> .ip (by omega) (.bind (lI _ (by omega)) λb hb=> .ip (by rw[ByteArray.size_append];omega) (.ip (by simp only[ByteArray.size_append];omega) (.br (λ_=> .ip (by simp only[ByteArray.size_append];omega) (.bind (lI _ (by omega)) λc hc=> .ip (by simp only[ByteArray.size_append];omega) (.ip (by simp only[ByteArray.size_append];omega) (.bind (lI _ (by omega)) λd hd=> .ip (by simp only[ByteArray.size_append];omega) (.ret ?_))))) λhk=> ?_)))
 ·show ByteArray.size _<=_;simp only[ByteArray.size_append];omega
 ·have n5:=n5 λe=>by rw[e] at hk;cases hk
  refine .ip (by simp only[ByteArray.size_append];omega) (.bind (lI _ (by omega)) λc hc=> .ip (by simp only[ByteArray.size_append];omega) (.ip (by simp only[ByteArray.size_append];omega) (.bind (lI _ (by omega)) λd hd=> .ip (by simp only[ByteArray.size_append];omega) (.ip (by simp only[ByteArray.size_append];omega) (.bind (lI _ (by omega)) λe he=> .ip (by simp only[ByteArray.size_append];omega) (.ret ?_))))));show ByteArray.size _<=_;simp only[ByteArray.size_append];omega
theorem MY(l:List eA)(hl:l.length<=maxLen):Tt (λy=>y.1.size<=1000000) (qI l):=by
 obtain⟨b,b1,b2⟩:=xx hl;unfold qI;rw[b1,ae,ej];refine .br (λe=> ?_) λ_=> .ret (by decide);have h16:=b2 e;subst e;have hlog:=((Lb l hl).1 b1).2;refine .br (λ_=> .ret (by decide)) λ_=> .bind (.count (B:=qp) (E:=λe=>e.1.1.size<=1000000) l.length (λk (b:ByteArray)=>((l,b,(k:Int),()),(),())) (λk b=>b.size<=k*20000) (λb hb=> .end (aZ _) (.ret (by show b.size<=_;omega))) (λk b hk hb=> ?_) ByteArray.empty (aB _)) λy hy=> .ret hy;have sw:=ei hl hk;have e1: (⟨⟨[58]⟩⟩:ByteArray).size=1:=rfl;have e2: (⟨⟨[59]⟩⟩:ByteArray).size=1:=rfl;have hb:b.size<=k*20000:=hb;have hk2:k*20000<=16*20000:=bg _ (by omega);refine .go (aH.2 hk) (.br (λ_=> .ip (by rw[e2];show b.size+1<=_;omega) (.ip (ay k) (.get (tn hk) λe he _=> .bind (lI _ ?_) λy hy=> ?_))) λ_=> .ip (ay k) (.get (tn hk) λe he _=> .bind (lI _ ?_) λy hy=> ?_))
 case refine_1|refine_3=>have:=hlog k hk;unfold Sb at this;rw[show l[k]? =some e from he] at this;simp only[al] at this;have:=fe.1 this.1;omega
 all_goals
  dsimp only;rw[sw];refine .ip (by first |omega| (simp only[ByteArray.size_append];omega)) (.ip (by simp only[ByteArray.size_append];omega) (.ip (ay k) (.get (tn hk) λe2 _ _=> .bind (PF e2.op) λz hz=> .ip (by simp only[ByteArray.size_append];omega) (.ret ⟨_,rfl,?_⟩))));simp only[ByteArray.size_append];omega
theorem PG(b:ByteArray)(hb:b.size<=1000000):Tt T1 (sP b):=by unfold sP;exact .bind (.count (B:=rD) (E:=λ_=>True) b.size (λk (n:Int)=>((b,n,(k:Int),()),(),())) (λ_ _=>True) (λ_ _=> .end (aZ _) (.ret trivial)) (λk n hk _=> .go (aH.2 hk) (.ip (ay k) (.byte hk λx=> .ret ⟨_,by rw[ei (n:=b.size) (by unfold maxLen;omega) hk],trivial⟩))) 5 trivial) λ_ _=> .ret trivial
theorem Sw(l:List eA)(hl:l.length<=maxLen):Tt (λy=>y.1.length<=l.length+1/\y.1.length<=17) (pi l):=by
 obtain⟨b,b1,b2⟩:=xx hl;unfold pi;rw[b1,ae,ej];refine .br (λe=> ?_) λ_=> .ret ⟨aB _,aB _⟩;have h16:=b2 e;refine .ip (by simp) (.bind (.count (B:=ph) (E:=λe=>e.2.2.1.length<=l.length+1/\e.2.2.1.length<=17) l.length (λk (b:Int×List Int)=>((l,(),b.1,(k:Int),()),(),b.2,())) (λk b=>b.2.length=k+1) (λb hb=> .end (aZ _) (.ret (by show b.2.length<=_/\b.2.length<=_;omega))) (λk b hk hb=> ?_) (11,[11]) rfl) λy hy=> .ret hy);have sw:=ei hl hk;refine .go (aH.2 hk) ?_;dsimp only;rw[sw];refine .ip ⟨ay k,by omega,Int.ofNat_le.2 hk⟩ (.bind (MY _ (aP (by rw[aR,bf];omega) hl)) λy hy=> .bind (PG y.1 hy) λz _=> .ip ?_ (.ret ⟨(_,_),rfl,?_⟩))
 ·rw[ax,az,hb];omega
 ·rw[ax,az,hb]
theorem Oo(l:List eA)(k:Int)(hl:l.length<=maxLen):Tt (λy=>y.1≠ -1->0<=k/\k<=(l.length:Int)) (pY l k):=by unfold pY;refine .bind (Sw l hl) λy hy=> ?_;rw[fm (n:=(y.1.length:Int)-1) (by omega) (by omega),ia,ae,ej];refine .br (λh=> ?_) λ_=> .ret λh=>absurd rfl h;have h:=fe.1 h;exact .ip (by omega) (.get (by omega) λ_ _ _=> .ret λ_=>by omega)
theorem W8(x:eh)(ok:gD 1048576 x)(a b:Int):Tt (λy=>y.1=true->VC x/\(0<=a/\a<5)/\(0<=b/\b<5)) (qH x a b):=by
 unfold qH;refine .bind (qe x ok) λv hv=> ?_;rw[ej];refine .br (λh=> ?_) λ_=> .ret nofun;have vc:=hv h;have h5:=s8 (eW ok.2.1) vc.sides
 have side:Tt (λy:Bool×Unit=>y.1=true->(0<=a/\a<5)/\(0<=b/\b<5)) (jc x.sides a b):=by unfold jc;simp only[vc.sides,ia,ae,eI];refine .br (λha=> .br (λhb=> ?_) λ_=> .ret nofun) λ_=> .ret nofun;have ha:=fe.1 ha;have hb:=fe.1 hb;exact .ip ha.1 (.get (by omega) λ_ _ _=> .ip hb.1 (.get (by omega) λ_ _ _=> .ret λ_=>by omega))
 refine .bind side λy hy=> ?_;rw[ej];refine .br (λh=> ?_) λ_=> .ret nofun;obtain⟨ha,hb⟩:=hy h;refine .br (λ_=> .ret nofun) λ_=> .srv ok vc ha λs _ s2 _=> ?_;obtain⟨n,n1,_⟩:=zL s.config a (fu s2.1);obtain⟨m,m1,_⟩:=zL s.config b (fu s2.1);rw[n1,ae,m1];have good: ∀d:Bool,Tt (λy:Bool×Unit=>y.1=true->VC x/\(0<=a/\a<5)/\(0<=b/\b<5)) (some (d,())):=λd=> .ret λ_=>⟨vc,ha,hb⟩
 exact .br (λ_=> .srv ok vc hb λ_ _ _ _=> .br (λ_=> .br (λ_=> .br (λ_=>good _) λ_=>good _) λ_=> .br (λ_=> .br (λ_=>good _) λ_=>good _) λ_=>good _) λ_=>good _) λ_=>good _
theorem Yh(x:eh)(ok:gD 1048576 x)(a b:Int):Tt (λy=>0<=y.1->VC x/\(0<=a/\a<5)/\(0<=b/\b<5)/\ ∃s l,x.servers[a.toNat]? =some s/\gf s=some (l,())/\l.length<=16/\y.1<=(l.length:Int)) (nE x a b):=by
 unfold nE;refine .bind (W8 x ok a b) λv hv=> ?_;rw[ej];refine .br (λh=> ?_) λ_=> .ret λh=>absurd h (by decide);obtain⟨vc,ha,hb⟩:=hv h;refine .srv ok vc ha λs s1 s2 s3=> ?_;obtain⟨⟨l,_⟩,l1,l2⟩:=zN s s2 (IX s2 s3);have l2:l.length<=16:=l2;rw[l1,ae];refine .srv ok vc hb λt _ t2 _=> .srv ok vc hb λu _ u2 _=> .bind (Q:=T1) ?_ λd _=> .bind (Q:=λy=>y.1=true->(t.learned.length:Int)<=(l.length:Int)) ?_ λp hp=> ?_
 ·unfold nX;exact .bind (Oo _ _ (eW u2.2.2)) λ_ _=> .ret trivial
 ·unfold pj;refine .br (λhd=> .bind (Oo l _ (by unfold maxLen;omega)) λy hy=> .ret λe=> ?_) λ_=> .ret nofun;have hd:d.1≥0:=of_decide_eq_true hd;have e:=eq_of_beq e;exact (hy (by omega)).2
 ·have tl:=t2.2.2;rw[ej];refine .br (λe=> .ret λ_=>⟨vc,ha,hb,s,l,s1,l1,l2,?_⟩) λ_=> .ret λ_=>⟨vc,ha,hb,s,l,s1,l1,l2,?_⟩
  ·have:=hp e;show IntKind.wrap .i64 ((l.length:Int)-(t.learned.length:Int))<=_;rw[fm (by omega) (by omega)];omega
  ·show IntKind.wrap .i64 ((l.length:Int)-0)<=_;rw[fm (by omega) (by omega)];omega
theorem W9(x:eh)(ok:gD 1048576 x)(a b n:Int):Tt (λy=>Kp x y.1) (nF x a b n):=by
 unfold nF;rw[(jQ x ok).1,ae];refine .bind (Yh x ok a b) λy hy=> .br (λ_=> .ret (.self ok)) λh=> ?_;have h: ¬y.1<0:=of_decide_eq_false h;obtain⟨vc,ha,hb,s,l,s1,l1,l2,le⟩:=hy (by omega);rw[ia,ae,ej];refine .br (λw=> .ip ha.1 ?_) λ_=> .ret (.self ok);have w:=fe.1 w;rw[s1,ae,l1,ae];dsimp only;have hm: (if n<y.1 then n else y.1)<=y.1/\0<=(if n<y.1 then n else y.1):=by split<;>omega
 generalize (if n<y.1 then n else y.1)=m at hm;rw[fm (n:=(l.length:Int)-y.1) (by omega) (by omega),fm (n:=(l.length:Int)-y.1+m) (by omega) (by omega)]
 have hl: ((l.drop (0+(0:Int).toNat)).take (((l.length:Int)-y.1+m).toNat-(0:Int).toNat)).length<=1048576:=by rw[aR,bf];omega
 refine .ip (by omega) (.ip (by omega) ?_);rw[AN hl,ae];exact .at vc.len hb λu _ hu=> .ret ((Kp.self ok).set (s:=⟨u.up,u.intact,u.version,u.epoch,u.config,u.first,u.log,u.commit,(l.drop (0+(0:Int).toNat)).take (((l.length:Int)-y.1+m).toNat-(0:Int).toNat)⟩) ⟨(ok.1.2 u hu).1,(ok.1.2 u hu).2.1,hl⟩ _)
theorem Sx{x y:eh}{n:Int}{r:Option (eh×Int×Unit)}(h:r=some (y,n,())/\gD 1048576 y/\y.servers.length=x.servers.length):Tt (λz=>Kp x z.1) r:=⟨_,h.1,h.2⟩
theorem Yi(x:eh)(ok:gD 1048576 x)(e:fS):Tt (λy=>Kp x y.1) (uQ x e):=by obtain⟨_,_,c1⟩:=WY x ok e.server;obtain⟨_,_,c2⟩:=Si x ok e.server;obtain⟨_,_,c3⟩:=X7 x ok e.server;obtain⟨_,_,c4⟩:=X8 x ok e.server e.n;obtain⟨_,_,c5⟩:=Sj x ok e.n;unfold uQ;refine .br (λ_=> .bind (Sv x ok _ _) λy hy=> .ret hy) λ_=> .br (λ_=> .bind (V3 x ok _ _) λn hn=> ?_) λ_=> .br (λ_=> .bind (BQ x ok) λy hy=> .ret hy) λ_=> .br (λ_=> .bind (Sx c1) λy hy=> .ret hy) λ_=> .br (λ_=> .bind (Sx c2) λy hy=> .ret hy) λ_=> .br (λ_=> .bind (Sx c3) λy hy=> .ret hy) λ_=> .br (λ_=> .bind (Sx c4) λy hy=> .ret hy) λ_=> .br (λ_=> .bind (Sx c5) λy hy=> .ret hy) λ_=> .br (λ_=> .bind (V0 x ok _) λy hy=> .ret hy) λ_=> .br (λ_=> .bind (W9 x ok _ _ _) λy hy=> .br (λ_=> .ret hy) λ_=> .ret hy) λ_=> .br (λ_=> .bind (Sr x ok _) λy hy=> .ret hy) λ_=> .br (λ_=> .bind (MX x ok _) λy hy=> .ret hy) λ_=> .br (λ_=> .bind (UO x ok _) λy hy=> .ret hy) λ_=> .bind (UN x ok _ _) λy hy=> .ret hy;rw[ej];refine .br (λ_=> .bind (BR x ok _ hn) λy hy=> .ret hy) λ_=> ?_;rw[(jQ x ok).1];exact .ret (.self ok)
theorem Yj(k:Int):Tt T1 (uC k):=by
 unfold uC
 repeat first |exact .ret trivial|refine .br (λ_=> ?_) λ_=> ?_
theorem Sy(e:fS):Tt T1 (mE e):=by
 unfold mE;simp only[ia,ae,vK];refine .br (λ_=> .ret trivial) λ_=> .br (λ_=> .ret trivial) λ_=> .br (λ_=> .ret trivial) λ_=> .br (λ_=> .ret trivial) λ_=> .bind (Yj _) λ_ _=> ?_
 repeat first |exact .ret trivial|refine .br (λ_=> ?_) λ_=> ?_
theorem PH(x:eh)(ok:gD 1048576 x)(e:fS):Tt (λy=>Kp x y.1) (sR x e):=by unfold sR;rw[(jQ x ok).1];refine .bind (qe x ok) λ_ _=> .br (λ_=> .ret (Kp.self ok)) λ_=> .bind (Sy e) λ_ _=> .br (λ_=> .ret (Kp.self ok)) λ_=> .br (λ_=> .bind (UK x ok _ _) λy hy=> .ret hy) λ_=> .br (λ_=> ?_) λ_=> .bind (Yi x ok e) λy hy=> .ret hy;exact .bind (Q:=λy=>Kp x y.1) ⟨_,rfl,Kp.self ok⟩ λy hy=> .bind (MU x ok _ _) λ_ _=> .ret hy
theorem MZ(x:eh)(ok:gD 1048576 x)(l:List fS)(hl:l.length<=1048576):Tt (λy=>Kp x y.1/\y.2.1.length<=l.length) (qK x l):=by
 have lm:=eW hl;unfold qK;rw[(jQ x ok).1,ae];refine .bind (.count (B:=qq) (E:=λe=> ∃ (c:eh) (r:List lu),Kp x c/\r.length<=l.length/\e=(((),(),(),()),(fz,fc c,()),r,c.servers,c.sides,c.master.configs,c.places,())) l.length (λk (b:eh×List lu)=>((l,(),(),(),(k:Int),()),(fz,fc b.1,()),b.2,b.1.servers,b.1.sides,b.1.master.configs,b.1.places,())) (λk b=>Kp x b.1/\b.2.length<=k) (λb hb=> .end (aZ _) (.ret ⟨b.1,b.2,hb.1,hb.2,rfl⟩)) (λk b hk hb=> .go (aH.2 hk) (.br (λ_=> .ip (ay k) (.get (tn hk) λe _ _=> .bind (PH b.1 hb.1.1 e) λy hy=> .ip ?_ (.ret ⟨(y.1,b.2++ [y.2.1]),by rw[ei lm hk],hb.1.trans hy,?_⟩))) λ_=> .ret ⟨b.1,b.2,hb.1,by omega,rfl⟩)) (x,[]) ⟨.self ok,au _⟩) ?_
 ·show (b.2++ [y.2.1]).length*32<=2 ^ 40;rw[ax,az];omega
 ·rw[ax,az];omega
 ·rintro _ ⟨c,r,hc,hr,rfl⟩
  exact .ret ⟨hc,hr⟩
end
section
section
variable [eg]
theorem Tt.dn{α β:Type}{Q:α->Prop}{Q':β->Prop}{r:Option (List gE×α)}{k:List gE×α->Option β}(h:Dn Q r)(hk: ∀c a,gi c->Q a->Tt Q' (k ([c],a))):Tt Q' (r.bind k):=by obtain⟨c,a,rfl,h1,h2⟩:=h;exact hk c a h1 h2
theorem Dn.tt{α β:Type}{Q:α->Prop}{Q':β->Prop}{r:Option α}{k:α->Option (List gE×β)}(h:Tt Q r)(hk: ∀a,Q a->Dn Q' (k a)):Dn Q' (r.bind k):=by obtain⟨a,rfl,h⟩:=h;exact hk a h
theorem Sz{α:Type}{Q:α->Prop}{r:Option (List gE×α)}(h:Tt (λy=> ∃c,y.1= [c] /\gi c/\Q y.2) r):Dn Q r:=by obtain⟨⟨_,a⟩,rfl,c,rfl,h1,h2⟩:=h;exact⟨c,a,rfl,h1,h2⟩
theorem SA{c:gE}(h:gi c):Dn (λy:List Int×Unit=>tg y.1) (qL [c]):=by
 refine Sz ?_;unfold qL;refine .bind (.count (B:=vB) (E:=λe=> ∃c,e.2.2.1= [c] /\gi c/\tg e.2.2.2.1) 5 (λk (b:gE×List Int)=>(((),(),(k:Int),()),(),[b.1],b.2,())) (λk b=>gi b.1/\b.2.length<=k/\SS b.2/\ ∀y∈b.2,0<=y/\y< (k:Int)) (λb hb=> .end (aZ _) (.ret ⟨b.1,rfl,hb.1,xw hb.2.2.1 hb.2.2.2⟩)) (λk b hk hb=> ?_) (c,[]) ⟨h,au _,List.Pairwise.nil,nofun⟩) λy hy=> .ret hy;obtain⟨h1,h2,h3,h4⟩:=hb;have sw:=ei (n:=5) (by decide) hk;have stay: ∀y∈b.2,0<=y/\y< ((k+1:Nat):Int):=λy hy=>by have:=h4 y hy;omega
 refine .go (show (k:Int)<5 by omega) (.dn (kO h1 2) λc1 _ hc _=> .ip rfl (.br (λ_=> .ip (by show (b.2++ [(k:Int)]).length*8<=2 ^ 40;rw[ax,az];omega) (.ret ⟨(c1,b.2++ [(k:Int)]),by rw[sw],hc,by rw[ax,az];omega,?_,λy hy=> ?_⟩)) λ_=> .ret ⟨(c1,b.2),by rw[sw],hc,ch h2,h3,stay⟩))
 ·exact co.2 ⟨h3,cx _ _,λy hy z hz=>by rw[aD.1 hz];exact (h4 y hy).2⟩
 ·rcases aW.1 hy with hy|hy
  ·exact stay y hy
  ·rw[aD.1 hy];omega
omit [eg] in
theorem SB{l:List fB}(h5:l.length=5)(h: ∀p∈l,(0<=p.rack/\p.rack<=9)/\(0<=p.capacity/\p.capacity<=9)/\0<=p.load/\p.load<=99):fT l=some (true,()):=by
 have lm:l.length<=maxLen:=by unfold maxLen;omega
 have gC:Tt (λy:Bool×Unit=>y.1=true) (fT l):=by
  unfold fT;refine .bind (.count (B:=kA) (E:=Sum.elim (λ_=>False) λe=>e.1.1=l) l.length (λk (_:Unit)=>((l,(k:Int),()),(),())) (λ_ _=>True) (λ_ _=> .end (aZ _) (.ret rfl)) (λk _ hk _=> .go (aH.2 hk) (.ip (ay k) (.get (tn hk) λp _ hp=> ?_))) () trivial) λy hy=> ?_
  ·obtain⟨h1,_⟩:=h p hp;rw[ia,fe.2 h1,ae];refine .br (λh=>by cases h) λ_=> .ip (ay k) (.get (tn hk) λq _ hq=> ?_);obtain⟨_,h2,_⟩:=h q hq;rw[ia,fe.2 h2,ae];refine .br (λh=>by cases h) λ_=> .ip (ay k) (.get (tn hk) λr _ hr=> ?_);obtain⟨_,_,h3⟩:=h r hr;rw[ia,fe.2 h3,ae];exact .br (λh=>by cases h) λ_=> .ret ⟨(),by rw[ei lm hk],trivial⟩
  ·cases y with
   |inl y=>exact hy.elim
   |inr y=>refine .ret ?_;show ((y.1.1.length:Int)==5)=true;rw[show y.1.1=l from hy,h5];rfl
 obtain⟨⟨b,_⟩,e,rfl⟩:=gC;exact e
theorem Oq{c:gE}(h:gi c):Dn (λy:List fB×Unit=>y.1.length=5/\fT y.1=some (true,())) (pO [c]):=by
 refine Sz ?_;unfold pO;refine .bind (.count (B:=rv) (E:=λe=> ∃c,e.2.2.1= [c] /\gi c/\e.2.2.2.1.length=5/\fT e.2.2.2.1=some (true,())) 5 (λk (b:gE×List fB)=>(((),(),(k:Int),()),(),[b.1],b.2,())) (λk b=>gi b.1/\b.2.length=k/\ ∀p∈b.2,(0<=p.rack/\p.rack<=9)/\(0<=p.capacity/\p.capacity<=9)/\0<=p.load/\p.load<=99) (λb hb=> .end (aZ _) (.ret ⟨b.1,rfl,hb.1,hb.2.1,SB hb.2.1 hb.2.2⟩)) (λk b hk hb=> ?_) (c,[]) ⟨h,rfl,nofun⟩) λy hy=> .ret hy;obtain⟨h1,h2,h3⟩:=hb;refine .go (show (k:Int)<5 by omega) (.dn (nn h1 (n:=4) (by omega)) λc1 x g1 hx=> .ip rfl (.dn (nn g1 (n:=4) (by omega)) λc2 y g2 hy=> .ip rfl (.dn (nn g2 (n:=4) (by omega)) λc3 z g3 hz=> .ip rfl (.ip ?_ (.ret ⟨(c3,b.2++ [⟨x.1,1+y.1,z.1⟩]),?_,g3,by rw[ax,az,h2],λp hp=> ?_⟩)))))
 ·rw[ax,az,show List.length _=k from h2];omega
 ·dsimp only;rw[ei (n:=5) (by decide) hk,fm (n:=1+y.1) (by omega) (by omega)]
 ·rcases aW.1 hp with hp|hp
  ·exact h3 p hp
  ·rw[aD.1 hp];show (0<=x.1/\x.1<=9)/\(0<=1+y.1/\1+y.1<=9)/\0<=z.1/\z.1<=99;omega
omit [eg] in
theorem Ot(v:Int):Tt (λy=>gW 1048576 y.1) (ox v):=by
 unfold ox;rw[ia,ae];have ok: ∀v:Int,gW 1048576 ⟨true,true,v,0,⟨0,0,[],[]⟩,0,[],0,[]⟩:=λ_=>⟨⟨aB _,aB _⟩,aB _,aB _⟩
 exact .br (λ_=> .ret (ok _)) λ_=> .ret (ok _)
omit [eg] in
theorem Xa(l:List fB)(hl:l.length<=1048576):Tt (λy=>gD 1048576 y.1/\(fT l=some (true,())->y.1.servers.length=5)) (oW l):=by
 obtain⟨v,v1,_⟩:=u7 l (eW hl);unfold oW;rw[v1,ae,ej];refine .br (λe=> .ip (by decide) (.ip ?_ (.bind (.count (B:=oV) (E:=λe=> ∃S:List eu,S.length=5/\(∀s∈S,gW 1048576 s)/\e=(((),(),()),(fz,(0,(),(),(),0,3,0,0,0,(),()),()),S,List.replicate (5:Int).toNat (0:Int),[] ++l,())) 5 (λk (S:List eu)=>(((),(),(k:Int),()),(fz,(0,(),(),(),0,3,0,0,0,(),()),()),S,List.replicate (5:Int).toNat (0:Int),[] ++l,())) (λk S=>S.length=k/\ ∀s∈S,gW 1048576 s) (λS hS=> .end (aZ _) (.ret ⟨S,hS.1,hS.2,rfl⟩)) (λk S hk hS=> .go (show (k:Int)<5 by omega) (.bind (Ot 1) λs hs=> .ip ?_ (.ret ⟨S++ [s.1],by rw[ei (n:=5) (by decide) hk],by rw[ax,az,hS.1],λt ht=> ?_⟩))) [] ⟨rfl,nofun⟩) ?_))) λ_=> .ret ⟨⟨⟨aB _,nofun⟩,aB _,⟨aB _,nofun⟩,aB _⟩,λe=>by simp_all⟩
 ·rw[be];omega
 ·rw[ax,az,show List.length _=k from hS.1];omega
 ·exact (aW.1 ht).elim (hS.2 t) λe=>by rw[aD.1 e];exact hs
 ·rintro _ ⟨S,h5,hS,rfl⟩
  exact .ret ⟨⟨⟨by show S.length<=_;omega,hS⟩,by show (List.replicate (5:Int).toNat (0:Int)).length<=_;decide,⟨aB _,nofun⟩,hl⟩,λ_=>h5⟩
omit [eg] in
theorem SC{e p:Int}{R W:List Int}(he:1<=e/\e<=20)(hR:tg R)(hW:tg W)(hp:p∈R)(hd: ∀y∈R,y∉W):eN ⟨e,p,R,W⟩=some (true,()):=by have hr:=hR.len;have hw:=hW.len;unfold eN;simp only[ia,fe.2 he,ae,eI,(yb hR).1,(yb hW).1,(gP R p (by unfold maxLen;omega)).1,decide_eq_true hp,AI R W hR (by unfold maxLen;omega)];rw[List.filter_eq_nil_iff.2 λy hy h=>hd y hy (of_decide_eq_true h)];rfl
theorem Xb{c:gE}(h:gi c)(e:Int):Dn (λy:ey×Unit=>y.1.epoch=e/\y.1.replicas.length<=5/\y.1.witnesses.length<=5/\(1<=e/\e<=20->eN y.1=some (true,()))) (og [c] e):=by
 unfold og;refine .bind (nn h (n:=5) (by omega)) λc1 p h1 hp=> .iteP rfl (.bind (SA h1) λc2 l h2 hl=> .iteP rfl ?_);obtain⟨r,r1,r2,r3,_⟩:=UB l.1 p.1 (by have:=hl.len;omega) hl.pair;rw[show kM _ _=_ from r1,ae]
 have gC: ∀R:List Int,tg R->p.1∈R->Dn (λy:ey×Unit=>y.1.epoch=e/\y.1.replicas.length<=5/\y.1.witnesses.length<=5/\(1<=e/\e<=20->eN y.1=some (true,()))) ((gQ [c2] 2).bind λy5=>iteP (y5.1.length=([c2]:List gE).length) (br y5.2.1 ((qL y5.1).bind λy6=>iteP (y6.1.length=y5.1.length) ((gm y6.2.1 R).bind λy7=>br (decide ((y7.1.length:Int)>0)) (iteP (0<=(0:Int)/\(0:Int)<=(1:Int)/\(1:Int)<=((y7.1.length:Nat):Int)) (iteP ((0+(0:Int).toNat)=0/\((1:Int).toNat-(0:Int).toNat)<=y7.1.length) (some (y6.1,(⟨e,p.1,R,(y7.1.take ((1:Int).toNat-(0:Int).toNat))⟩:ey),())) (iteP ((0+(0:Int).toNat)+((1:Int).toNat-(0:Int).toNat)<=y7.1.length) (some (y6.1,(⟨e,p.1,R,((y7.1.drop (0+(0:Int).toNat)).take ((1:Int).toNat-(0:Int).toNat))⟩:ey),())) none)) none) (some (y6.1,(⟨e,p.1,R,([]:List Int)⟩:ey),()))) none) (some (y5.1,(⟨e,p.1,R,([]:List Int)⟩:ey),()))) none):=λR hR hpR=>by
  have nil:tg [] :=λk hk=>by simp at hk
  have rl:=hR.len;refine .bind (kO h2 2) λc3 _ h3 _=> .iteP rfl (.br (λ_=> .bind (SA h3) λc4 w h4 hw=> .iteP rfl ?_) λ_=> .ret h3 ⟨rfl,rl,aB _,λhe=>SC he hR nil hpR λ_ _=>nofun⟩);rw[show gm _ _=_ from Fj w.1 R hw (by unfold maxLen;omega),ae];have hf:=hw.filter λx=> !decide (x∈R)
  have hn: ∀y∈R,y∉w.1.filter λx=> !decide (x∈R):=λy hy h=>by have:=(cT.1 h).2;simp[hy] at this
  have fl:=hf.len;generalize w.1.filter (λx=> !decide (x∈R))=f at hf hn fl;refine .br (λhpos=> ?_) λ_=> .ret h4 ⟨rfl,rl,aB _,λhe=>SC he hR nil hpR λ_ _=>nofun⟩;have hpos: (f.length:Int)>0:=of_decide_eq_true hpos;refine .iteP (by show (0:Int)<=0/\(0:Int)<=1/\(1:Int)<=(f.length:Int);omega) (.iteP (by show 0=0/\1<=f.length;omega) (.ret h4 ⟨rfl,rl,?_,λhe=>SC he hR ?_ hpR λy hy h=>hn y hy (bO h)⟩))
  ·show (f.take _).length<=5;rw[aR];omega
  ·exact xw (hf.pair.sublist (List.take_sublist _ _)) λy hy=>qv hf y (bO hy)
 have ra:tg r:=xw r2 λy hy=>((r3 y).1 hy).elim (λe=>by rw[e];exact hp) (qv hl y);refine .br (λ_=>gC [p.1] (xw (cx _ _) λy hy=>by rw[aD.1 hy];exact hp) (aD.2 rfl)) λ_=>gC r ra ((r3 _).2 (.inl rfl))
omit [eg] in
theorem Xc{M:eC}(h:tf 1048576 M)(hl:M.configs.length<=1000){c:ey}(hc:jh 1048576 c):tf 1048576 ⟨M.configs++ [c],M.activated⟩:=⟨by show (M.configs++ [c]).length<=_;rw[ax,az];omega,λd hd=>(aW.1 hd).elim (h.2 d) λe=>by rw[aD.1 e];exact hc⟩
theorem Yk{c:gE}(h:gi c):Dn (λy:List Int×Unit=>y.1.length<=6) (xU [c]):=by
 unfold xU;refine .bind (SA h) λc1 l h1 hl=> .iteP rfl (.bind (kO h1 _) λc2 _ h2 _=> .iteP rfl (.br (λ_=> .bind (jn h2 (by simp)) λc3 x h3 _=> .iteP rfl ?_) λ_=> .ret h2 ?_))
 ·have:=hl.len;refine .iteP ?_ (.ret h3 ?_)
  ·show (l.1++ [x.1]).length*8<=2 ^ 40;rw[ax,az];omega
  ·show (l.1++ [x.1]).length<=6;rw[ax,az];omega
 ·exact aP hl.len (by omega)
theorem SD{c:gE}(h:gi c):Dn (λy:ey×Unit=>jh 1048576 y.1) (xV [c]):=by
 unfold xV;refine .bind (gY h _) λc1 e h1 _=> .iteP rfl (.bind (Xb h1 _) λc2 g h2 hg=> .iteP rfl (.bind (gY h2 _) λc3 x h3 _=> .iteP rfl ?_));obtain⟨_,g1,g2,_⟩:=hg;have ok:jh 1048576 g.1:=⟨by omega,by omega⟩
 refine .br (λ_=> .bind (jn h3 (by simp)) λc4 _ h4 _=> .iteP rfl (.ret h4 ok)) λ_=> .br (λ_=> .bind (gY h3 _) λc4 _ h4 _=> .iteP rfl (.ret h4 ok)) λ_=> .br (λ_=> .bind (Yk h3) λc4 l h4 hl=> .iteP rfl (.ret h4 ⟨by show l.1.length<=_;omega,ok.2⟩)) λ_=> .br (λ_=> .bind (Yk h3) λc4 l h4 hl=> .iteP rfl (.ret h4 ⟨ok.1,by show l.1.length<=_;omega⟩)) λ_=> .ret h3 ok
theorem YZ{c:gE}(h:gi c):Dn (λy:eC×Unit=>tf 1048576 y.1/\y.1.configs.length<=10) (w4 [c]):=by
 unfold w4;refine .bind (nn h (n:=5) (by omega)) λc1 n h1 hn=> .iteP rfl (Sz (.bind (.loop (B:=vC) (E:=λe=> ∃c,e.2.2.1= [c] /\gi c/\tf 1048576 ⟨e.2.2.2.1,e.2.1.2.1.2.1⟩/\e.2.2.2.1.length<=10) (λs=> ∃ (c:gE) (M:eC) (k:Int),s=(((),(),(),k,()),(((),0,()),((),M.activated,()),()),[c],M.configs,())/\gi c/\tf 1048576 M/\0<=k/\M.configs.length+k.toNat<=10) (λs=>s.1.2.2.2.1.toNat) ?_ ⟨c1,⟨[],0⟩,n.1,rfl,h1,⟨aB _,nofun⟩,hn.1,by show 0+n.1.toNat<=10;omega⟩) λy hy=> .ret hy))
 rintro _ ⟨c,M,k,rfl,hc,hM,h0,hl⟩
 refine .br (λhk=> ?_) λ_=> .ret ⟨c,rfl,hc,hM,by show M.configs.length<=10;omega⟩;have hk:k>0:=of_decide_eq_true hk;have hw:IntKind.wrap .i64 (k-1)=k-1:=fm (by omega) (by omega);refine .dn (Xb hc _) λc2 g h2 hg=> .ip rfl (.bind (CB M hM g.1 ⟨by omega,by omega⟩) λm hm=> .dn (kO h2 _) λc3 _ h3 _=> .ip rfl (.br (λ_=> .bind (Fm m.1 hm.1 _) λa ha=> .ret ⟨⟨c3,a.1,k-1,by dsimp only;rw[hw],h3,ha.1,by omega,by omega⟩,?_⟩) λ_=> .ret ⟨⟨c3,m.1,k-1,by dsimp only;rw[hw],h3,hm.1,by omega,by omega⟩,?_⟩))
 all_goals
  show (IntKind.wrap .i64 (k-1)).toNat<k.toNat;rw[hw];omega
theorem Y0{c:gE}(h:gi c):Dn (λy:eC×Unit=>tf 1048576 y.1) (w6 [c]):=by unfold w6;refine .bind (YZ h) λc1 m h1 hm=> .iteP rfl (.bind (gY h1 _) λc2 _ h2 _=> .iteP rfl (.br (λ_=> .bind (jn h2 (by simp)) λc3 _ h3 _=> .iteP rfl (.ret h3 hm.1)) λ_=> .br (λ_=> .bind (SD h2) λc3 g h3 hg=> .iteP rfl (.iteP ?_ (.ret h3 (Xc hm.1 (by omega) hg)))) λ_=> .ret h2 hm.1));show (m.1.configs++ [g.1]).length*64<=2 ^ 40;rw[ax,az];omega
omit [eg] in
theorem SE(c:ey)(h:jh maxLen c)(hv:eN c=some (true,())):Tt (λy=>0<y.1.length/\y.1.length<=10) (gF c):=by unfold gF;rw[hv,ae];refine .br (λh=>by cases h) λ_=> ?_;obtain⟨a1,a2,a3,_⟩:=xq h hv;have l1:=a1.len;have l2:=a2.len;obtain⟨r,r1,_,r4,r5⟩:=MN c.replicas c.witnesses (by omega) (by omega);rw[r1];exact .ret ⟨List.length_pos_of_mem ((r4 c.primary).2 (.inl a3)),by show r.length<=10;omega⟩
omit [eg] in
theorem Y1(l:List eA)(e:Int)(hl:l.length<=1048576):Tt (λy=>y.1.length<=1048576) (w8 l e):=by
 unfold w8;refine .bind (.count (B:=vD) (E:=λy=> ∃k:Nat,k<=l.length/\y=((l,(k:Int),()),(),())) l.length (λk (_:Unit)=>((l,e,(k:Int),()),(),())) (λ_ _=>True) (λ_ _=> .end (aZ _) (.ret ⟨l.length,au _,rfl⟩)) (λk _ hk _=> .go (aH.2 hk) (.ip (ay k) (.get (tn hk) λ_ _ _=> .br (λ_=> .ret ⟨(),by rw[ei (eW hl) hk],trivial⟩) λ_=> .ret ⟨k,Nat.le_of_lt hk,rfl⟩))) () trivial) ?_
 rintro _ ⟨k,hk,rfl⟩
 have h2: ((l.drop (0:Int).toNat).take ((k:Int).toNat-(0:Int).toNat)).length<=1048576:=by rw[aR,bf];omega
 exact .ip ⟨bU _,ay k,Int.ofNat_le.2 hk⟩ (.bind (Q:=λy=>y.1.length<=1048576) ⟨_,AN h2,h2⟩ λy hy=> .ret hy)
theorem UP{c:gE}(h:gi c):Dn (λy:eu×Int×Unit=>gW 1048576 y.1) (qM [c]):=by
 unfold qM;refine .bind (gY h _) λc1 _ h1 _=> .iteP rfl (.tt (Ot _) λs hs=> .bind (nn h1 (n:=3) (by omega)) λc2 e h2 he=> .iteP rfl (.bind (Xb h2 _) λc3 g h3 hg=> .iteP rfl ?_));have hw:IntKind.wrap .i64 (1+e.1)=1+e.1:=fm (by omega) (by omega);obtain⟨g0,g1,g2,g3⟩:=hg;have g3:=g3 (by rw[hw];omega);have okc:jh 1048576 g.1:=⟨by omega,by omega⟩
 refine .tt (SE g.1 (fu okc) g3) λm hm=> .bind (nn h3 (n:=(m.1.length:Int)) (by omega)) λc4 i h4 hi=> .iteP rfl (.iteP hi (.get (by show i.1.toNat<m.1.length;omega) λz _=> .bind (kO h4 _) λc5 _ h5 _=> .iteP rfl ?_))
 have fin: ∀ (c6:gE) (t:eu),gi c6->gW 1048576 t-> ∀up:Bool,Dn (λy:eu×Int×Unit=>gW 1048576 y.1) ((gQ [c6] 4).bind λy46=>iteP (y46.1.length=([c6]:List gE).length) (br y46.2.1 ((eF y46.1 3).bind λy47=>iteP (y47.1.length=y46.1.length) ((km (⟨up,t.intact,t.version,t.epoch,t.config,t.first,t.log,t.commit,t.learned⟩:eu) (IntKind.wrap .i64 (4+y47.2.1))).bind λy48=>some (y47.1,y48.1,z,())) none) (some (y46.1,(⟨up,t.intact,t.version,t.epoch,t.config,t.first,t.log,t.commit,t.learned⟩:eu),z,()))) none):=λc6 t h6 ht up=>.bind (kO h6 _) λc7 _ h7 _=> .iteP rfl (.br (λ_=> .bind (gY h7 _) λc8 _ h8 _=> .iteP rfl (.tt (Li ⟨up,t.intact,t.version,t.epoch,t.config,t.first,t.log,t.commit,t.learned⟩ _ ht) λu hu=> .ret h8 hu)) λ_=> .ret h7 ht)
 rw[ej];refine .br (λ_=> .bind (kO h5 _) λc6 _ h6 _=> .iteP rfl (.br (λ_=>fin c6 s.1 h6 hs _) λ_=>fin c6 s.1 h6 hs _)) λ_=> .bind (R3 h5) λc6 l h6 hl=> .iteP rfl (.tt (Y1 l.1 _ (by omega)) λl2 hl2=> .tt (Lj s.1 g.1 z l2.1 hs okc hl2) λt ht=> .bind (kO h6 _) λc7 _ h7 _=> .iteP rfl (.br (λ_=>fin c7 t.1 h7 ht _) λ_=>fin c7 t.1 h7 ht _))
theorem PI{c:gE}(h:gi c):Dn (λy:eu×Int×Unit=>gW 1048576 y.1) (w9 [c]):=by unfold w9;refine .bind (UP h) λc1 s h1 hs=> .iteP rfl (.bind (gY h1 _) λc2 _ h2 _=> .iteP rfl ?_);refine .br (λ_=> .bind (jn h2 (by simp)) λc3 _ h3 _=> .iteP rfl (.ret h3 hs)) λ_=> .br (λ_=> .bind (jn h2 (by simp)) λc3 _ h3 _=> .iteP rfl (.ret h3 hs)) λ_=> .br (λ_=> .bind (SD h2) λc3 g h3 hg=> .iteP rfl (.ret h3 ⟨hg,hs.2⟩)) λ_=> .br (λ_=> .bind (jn h2 (by simp)) λc3 _ h3 _=> .iteP rfl (.ret h3 hs)) λ_=> .br (λ_=> .bind (jn h2 (by simp)) λc3 _ h3 _=> .iteP rfl (.ret h3 hs)) λ_=> .br (λ_=> .bind (gY h2 _) λc3 _ h3 _=> .iteP rfl (.ret h3 hs)) λ_=> .br (λ_=> .bind (Pw h2) λc3 l h3 hl=> .iteP rfl (.ret h3 ⟨hs.1,by show l.1.length<=_;omega,hs.2.2⟩)) λ_=> .ret h2 hs
theorem SF{c:gE}(h:gi c):Dn (λy:List Int×Unit=>y.1.length<=5) (wZ [c]):=by
 unfold wZ;refine .bind (R2 h) λc1 l h1 hl=> .iteP rfl (.bind (gY h1 _) λc2 _ h2 _=> .iteP rfl (.br (λ_=> ?_) λ_=> .br (λ_=> .bind (jn h2 (by simp)) λc3 x h3 _=> .iteP rfl (.iteP ?_ (.get ?_ λ_ _=> .ret h3 ?_))) λ_=> .ret h2 (cP hl)))
 ·have hl:l.1.length=5:=hl;refine .iteP (by show (0:Int)<=1/\(1:Int)<=(l.1.length:Int)/\(l.1.length:Int)<=(l.1.length:Int);omega) ?_;rw[eE,if_neg (by intro h;exact absurd h.1 (by decide))];refine .iteP (by show 0+(1:Int).toNat+((l.1.length:Int).toNat-(1:Int).toNat)<=l.1.length;omega) (.ret h2 ?_);show ((l.1.drop (0+(1:Int).toNat)).take ((l.1.length:Int).toNat-(1:Int).toNat)).length<=5;rw[aR,bf];omega
 ·have hl:l.1.length=5:=hl;show (0:Int)<=1/\(1:Int)< (l.1.length:Int);omega
 ·have hl:l.1.length=5:=hl;show (1:Int).toNat<l.1.length;omega
 ·show (l.1.set _ _).length<=5;rw[bz];exact cP hl
theorem PJ{c:gE}(h:gi c):Dn (λy:List fB×Unit=>y.1.length<=5) (Ay [c]):=by
 unfold Ay;refine .bind (Oq h) λc1 l h1 hl=> .iteP rfl (.bind (gY h1 _) λc2 _ h2 _=> .iteP rfl ?_);have hl:l.1.length=5:=hl.1;refine .br (λ_=> ?_) λ_=> .br (λ_=> .bind (jn h2 (by simp)) λc3 x h3 _=> .iteP rfl (.iteP (by show (0:Int)<=0/\(0:Int)< (l.1.length:Int);omega) (.get (by show (0:Int).toNat<l.1.length;omega) λ_ _=> .ret h3 ?_))) λ_=> .br (λ_=> .bind (jn h2 (by simp)) λc3 x h3 _=> .iteP rfl (.iteP (by show (0:Int)<=1/\(1:Int)< (l.1.length:Int);omega) (.get (by show (1:Int).toNat<l.1.length;omega) λ_ _=> .ret h3 ?_))) λ_=> .ret h2 (cP hl)
 ·refine .iteP (by show (0:Int)<=1/\(1:Int)<=(l.1.length:Int)/\(l.1.length:Int)<=(l.1.length:Int);omega) ?_;rw[eE,if_neg (by intro h;exact absurd h.1 (by decide))];refine .iteP (by show 0+(1:Int).toNat+((l.1.length:Int).toNat-(1:Int).toNat)<=l.1.length;omega) (.ret h2 ?_);show ((l.1.drop (0+(1:Int).toNat)).take ((l.1.length:Int).toNat-(1:Int).toNat)).length<=5;rw[aR,bf];omega
 ·show (l.1.set _ _).length<=5;rw[bz];omega
 ·show (l.1.set _ _).length<=5;rw[bz];omega
theorem SG{c:gE}(h:gi c):Dn (λy:eh×Unit=>gD 1048576 y.1/\y.1.servers.length=5) (pk [c]):=by unfold pk;refine .bind (Oq h) λc1 l h1 hl=> .iteP rfl (.tt (Xa l.1 (by have:=hl.1;omega)) λx hx=> .bind (Pv h1 (by omega) (by omega)) λc2 e h2 he=> .iteP rfl (.tt (MZ x.1 hx.1 e.1 (by omega)) λy hy=> .ret h2 ⟨hy.1.1,hy.1.2.trans (hx.2 hl.2)⟩))
theorem M0{c:gE}(h:gi c):Dn (λy:eh×Unit=>gD 1048576 y.1/\y.1.servers.length=5) (xb [c]):=by unfold xb;refine .bind (SG h) λc1 x h1 hx=> .iteP rfl (.bind (gY h1 _) λc2 _ h2 _=> .iteP rfl ?_);obtain⟨⟨x1,x2,x3,x4⟩,x5⟩:=hx;refine .br (λ_=> .bind (jn h2 (by simp)) λc3 _ h3 _=> .iteP rfl (.ret h3 ⟨⟨x1,x2,x3,x4⟩,x5⟩)) λ_=> .br (λ_=> .bind (SF h2) λc3 l h3 hl=> .iteP rfl (.ret h3 ⟨⟨x1,by show l.1.length<=_;omega,x3,x4⟩,x5⟩)) λ_=> .br (λ_=> .bind (Y0 h2) λc3 m h3 hm=> .iteP rfl (.ret h3 ⟨⟨x1,x2,hm,x4⟩,x5⟩)) λ_=> .br (λ_=> .bind (jn h2 (by simp)) λc3 _ h3 _=> .iteP rfl (.ret h3 ⟨⟨x1,x2,x3,x4⟩,x5⟩)) λ_=> .br (λ_=> .bind (R0 h2) λc3 _ h3 _=> .iteP rfl (.ret h3 ⟨⟨x1,x2,x3,x4⟩,x5⟩)) λ_=> .br (λ_=> .bind (PJ h2) λc3 l h3 hl=> .iteP rfl (.ret h3 ⟨⟨x1,x2,x3,by show l.1.length<=_;omega⟩,x5⟩)) λ_=> .br (λ_=> .bind (PI h2) λc3 s h3 hs=> .iteP rfl (.bind (nn h3 (n:=5) (by omega)) λc4 i h4 hi=> .iteP rfl (.iteP (by show 0<=i.1/\i.1< (x.1.servers.length:Int);rw[x5];exact hi) (.get (by show i.1.toNat<x.1.servers.length;omega) λ_ _=> .ret h4 ⟨⟨zM x1 hs _,x2,x3,x4⟩,by show (x.1.servers.set _ _).length=5;rw[bz];exact x5⟩)))) λ_=> .ret h2 ⟨⟨x1,x2,x3,x4⟩,x5⟩
omit [eg] in
theorem M1(x:eh)(ok:gD 1048576 x):Tt (λy=>y.1.length<=1048576) (mJ x):=by
 unfold mJ;refine .bind (.count (B:=nh) (E:=λe=>e.2.2.1.length<=1048576) x.servers.length (λk (b:List Int)=>(((),(),(k:Int),()),(fx x,()),b,())) (λk b=>b.length<=k) (λb hb=> .end (aZ _) (.ret (aP hb ok.1.1))) (λk b hk hb=> ?_) [] (au _)) λy hy=> .ret hy;have:=ok.1.1;have sw:=ei (eW ok.1.1) hk;refine .go (aH.2 hk) (.bind (qe x ok) λ_ _=> .br (λ_=> .ip (ay k) (.get (tn hk) λs _ hs=> ?_)) λ_=> .ret (by show b.length<=_;omega));obtain⟨d,d1,_⟩:=ot s k (ok.1.2 s hs);rw[show gb _ _=_ from d1,ae];refine .br (λ_=> .ip ?_ (.ret ⟨b++ [(k:Int)],by rw[sw],?_⟩)) λ_=> .ret ⟨b,by rw[sw],ch hb⟩
 ·show (b++ [(k:Int)]).length*8<=2 ^ 40;rw[ax,az];omega
 ·rw[ax,az];omega
theorem Yl{x:Hd}{l:List Int}(h:qW x=some l)(hl:l.length<=maxLen)(hb: ∀m∈l,0<=m/\m<=255):Dn (λy:eh×Int×Unit=>gD 1048576 y.1/\y.1.servers.length=5) (uT x):=by unfold uT;refine .bind (WV h hl hb) λc1 _ h1 _=> .bind (M0 h1) λc2 x h2 hx=> .iteP rfl (.tt (M1 x.1 hx.1) λp hp=> .bind (gY h2 _) λc3 _ h3 _=> .iteP rfl (.br (λhpos=> .bind (kO h3 _) λc4 _ h4 _=> .iteP rfl ?_) λ_=> .ret h3 hx));have hpos: (p.1.length:Int)>0:=of_decide_eq_true hpos;exact .br (λ_=> .bind (nn h4 (n:=(p.1.length:Int)) (by omega)) λc5 i h5 hi=> .iteP rfl (.iteP hi (.get (by show i.1.toNat<p.1.length;omega) λ_ _=> .ret h5 hx))) λ_=> .ret h4 hx
end
end
section
theorem Tt.tru{r:Option (Bool×Unit)}(h:Tt (λy=>y.1=true) r):r=some (true,()):=by obtain⟨⟨b,_⟩,e,rfl⟩:=h;exact e
theorem Xd(l:List Int)(hl:l.length<=maxLen):lH l l=some (true,()):=by
 refine Tt.tru ?_;unfold lH;rw[ej,beq_self_eq_true];refine .br (λ_=> .bind (.count (B:=jP) (E:=Sum.elim (λ_=>False) λ_=>True) l.length (λk (_:Unit)=>((l,l,(l.length:Int),(k:Int),()),(),())) (λ_ _=>True) (λ_ _=> .end (aZ _) (.ret trivial)) (λk _ hk _=> .go (aH.2 hk) (.ip (ay k) (.get (tn hk) λx e _=> .ip (ay k) (.get (tn hk) λy e2 _=> ?_)))) () trivial) λy hy=> ?_) (λh=>by cases h)
 ·obtain rfl:x=y:=Option.some.inj ((show l[k]? =some x from e).symm.trans (show l[k]? =some y from e2));rw[beq_self_eq_true];exact .br (λh=>by cases h) λ_=> .ret ⟨(),by rw[ei hl hk],trivial⟩
 ·cases y with
  |inl y=>exact hy.elim
  |inr y=>exact .ret rfl
theorem SH(l:List fB)(hl:l.length<=maxLen):mS l l=some (true,()):=by
 refine Tt.tru ?_;unfold mS;rw[ej,beq_self_eq_true];refine .br (λ_=> .bind (.count (B:=nk) (E:=Sum.elim (λ_=>False) λ_=>True) l.length (λk (_:Unit)=>((l,l,(l.length:Int),(k:Int),()),(),())) (λ_ _=>True) (λ_ _=> .end (aZ _) (.ret trivial)) (λk _ hk _=> .go (aH.2 hk) (.ip (ay k) (.get (tn hk) λx e _=> .ip (ay k) (.get (tn hk) λy e2 _=> ?_)))) () trivial) λy hy=> ?_) (λh=>by cases h)
 ·obtain rfl:x=y:=Option.some.inj ((show l[k]? =some x from e).symm.trans (show l[k]? =some y from e2));simp only[beq_self_eq_true,Bool.and_self];exact .br (λh=>by cases h) λ_=> .ret ⟨(),by rw[ei hl hk],trivial⟩
 ·cases y with
  |inl y=>exact hy.elim
  |inr y=>exact .ret rfl
theorem Ym(s:eu)(h:gW 1048576 s):jg s s=some (true,()):=by unfold jg;simp only[beq_self_eq_true,eI,(iX s.config s.config (fu h.1)).2,R7 s.log s.log (eW h.2.1),R7 s.learned s.learned (eW h.2.2),decide_true,ae]
theorem Y2(m:eC)(h:tf 1048576 m):kw m m=some (true,()):=by
 have hl:=eW h.1;refine Tt.tru ?_;unfold kw gk;rw[beq_self_eq_true,ej,beq_self_eq_true];refine .br (λ_=> .bind (Q:=λy=>y.1=true) (.br (λ_=> .bind (.count (B:=f8) (E:=Sum.elim (λ_=>False) λ_=>True) m.configs.length (λk (_:Unit)=>((m.configs,(),m.configs,(m.configs.length:Int),(k:Int),()),(),())) (λ_ _=>True) (λ_ _=> .end (aZ _) (.ret trivial)) (λk _ hk _=> .go (aH.2 hk) (.ip (ay k) (.get (tn hk) λx e hx=> .ip (ay k) (.get (tn hk) λy e2 _=> ?_)))) () trivial) λy hy=> ?_) (λh=>by cases h)) λy hy=> .ret hy) (λh=>by cases h)
 ·obtain rfl:x=y:=Option.some.inj ((show m.configs[k]? =some x from e).symm.trans (show m.configs[k]? =some y from e2));rw[(iX x x (fu (h.2 x hx))).2,decide_eq_true rfl,ae];exact .br (λh=>by cases h) λ_=> .ret ⟨(),by rw[ei hl hk],trivial⟩
 ·cases y with
  |inl y=>exact hy.elim
  |inr y=>exact .ret rfl
theorem Yn(x:eh)(ok:gD 1048576 x):kf x x=some (true,()):=by
 have hl:=eW ok.1.1;refine Tt.tru ?_;unfold kf fL;simp only[beq_self_eq_true,Bool.and_self,eI,Xd x.sides (eW ok.2.1),Y2 x.master ok.2.2.1,SH x.places (eW ok.2.2.2),ae];rw[ej];refine .bind (Q:=λy=>y.1=true) (.br (λ_=> .bind (.count (B:=fE) (E:=Sum.elim (λ_=>False) λ_=>True) x.servers.length (λk (_:Unit)=>((x.servers,(),x.servers,(x.servers.length:Int),(k:Int),()),(),())) (λ_ _=>True) (λ_ _=> .end (aZ _) (.ret trivial)) (λk _ hk _=> .go (aH.2 hk) (.ip (ay k) (.get (tn hk) λs e hs=> .ip (ay k) (.get (tn hk) λt e2 _=> ?_)))) () trivial) λy hy=> ?_) (λh=>by cases h)) λy hy=> .br (λ_=> .ret rfl) λh=>by rw[h] at hy;cases hy
 ·obtain rfl:s=t:=Option.some.inj ((show x.servers[k]? =some s from e).symm.trans (show x.servers[k]? =some t from e2));rw[Ym s (ok.1.2 s hs),ae];exact .br (λh=>by cases h) λ_=> .ret ⟨(),by rw[ei hl hk],trivial⟩
 ·cases y with
  |inl y=>exact hy.elim
  |inr y=>exact .ret rfl
end
section

end
section

end
section
structure Co (x y:eh):Prop where
 sides:y.sides=x.sides
 master:y.master=x.master
 srv: ∀ (j:Nat) s,x.servers[j]? =some s-> ∃t,y.servers[j]? =some t/\t.up=s.up/\t.version=s.version/\t.epoch=s.epoch/\t.config=s.config
theorem Co.trans{x y z:eh}(h:Co x y)(k:Co y z):Co x z:=⟨k.1.trans h.1,k.2.trans h.2,λj s hs=>by obtain⟨t,t1,t2,t3,t4,t5⟩:=h.srv j s hs;obtain⟨u,u1,u2,u3,u4,u5⟩:=k.srv j t t1;exact⟨u,u1,u2.trans t2,u3.trans t3,u4.trans t4,u5.trans t5⟩⟩
theorem Co.set{x y:eh}(h:Co x y){i:Nat}{s t:eu}(hs:y.servers[i]? =some s)(h1:t.up=s.up)(h2:t.version=s.version)(h3:t.epoch=s.epoch)(h4:t.config=s.config):Co x ⟨y.now,y.servers.set i t,y.sides,y.master,y.masterUp,y.lease,y.places⟩:=
 h.trans ⟨rfl,rfl,λj u hu=>by
  by_cases hj:i=j
  ·subst hj;rw[hs] at hu;obtain rfl:=Option.some.inj hu;exact⟨t,dF (i9 hs),h1,h2,h3,h4⟩
  ·exact⟨u,(dV hj).trans hu,rfl,rfl,rfl,rfl⟩⟩
def Hr(x:eh)(a b:Int):Prop:=∀p q,x.servers[a.toNat]? =some p->x.servers[b.toNat]? =some q->q.epoch=p.epoch/\q.config=p.config
theorem Co.hr{x y:eh}(h:Co x y){a b:Int}(hh:Hr y a b):Hr x a b:=λp q hp hq=>by obtain⟨p',p1,_,_,p2,p3⟩:=h.srv _ _ hp;obtain⟨q',q1,_,_,q2,q3⟩:=h.srv _ _ hq;obtain⟨e1,e2⟩:=hh p' q' p1 q1;exact⟨q2.symm.trans (e1.trans p2),q3.symm.trans (e2.trans p3)⟩
end
section

end
section
def Ev{α:Type}(Q:α->Prop)(r:Option α):Prop:=∀a,r=some a->Q a
section
variable {α β σ ε:Type} {Q:α->Prop} {Q':β->Prop}
theorem Ev.ret{a:α}(h:Q a):Ev Q (some a):=λ_ e=>Option.some.inj e ▸ h
theorem Ev.no:Ev Q none:=nofun
theorem Ev.bd{r:Option α}{k:α->Option β}(hk: ∀a,r=some a->Ev Q' (k a)):Ev Q' (r.bind k):=λb e=>by
 cases r with
 |none=>cases e
 |some a=>exact hk a rfl b e
theorem Ev.bind{r:Option α}{k:α->Option β}(h:Ev Q r)(hk: ∀a,Q a->Ev Q' (k a)):Ev Q' (r.bind k):=.bd λa e=>hk a (h a e)
theorem Ev.br{b:Bool}{x y:Option α}(h1:b=true->Ev Q x)(h2:b=false->Ev Q y):Ev Q (Go.Proofs.YtkghndikalnipaaGreat.En.br b x y):=by
 cases b with
 |true=>exact h1 rfl
 |false=>exact h2 rfl
theorem Ev.brn{b:Bool}{x y:Option α}(h1:b=true->Ev Q y)(h2:b=false->Ev Q x):Ev Q (Go.Proofs.YtkghndikalnipaaGreat.En.br (!b) x y):=by
 cases b with
 |true=>exact h1 rfl
 |false=>exact h2 rfl
theorem Ev.ip{p:Prop}{d:Decidable p}{x:Option α}(h:p->Ev Q x):Ev Q (@iteP _ p d x none):=by
 by_cases hp:p
 ·rw[fv hp];exact h hp
 ·rw[Ad hp];exact .no
theorem Ev.ite{p:Prop}{d:Decidable p}{x y:Option α}(h:p->Ev Q x)(h2: ¬p->Ev Q y):Ev Q (@iteP _ p d x y):=by
 by_cases hp:p
 ·rw[fv hp];exact h hp
 ·rw[Ad hp];exact h2 hp
theorem Ev.mono{Q2:α->Prop}{r:Option α}(h:Ev Q r)(hq: ∀a,Q a->Q2 a):Ev Q2 r:=λa e=>hq a (h a e)
theorem Ev.loop{B:σ->Option (σ⊕ε)}{E:ε->Prop}(I:σ->Prop)(h: ∀s,I s->Ev (Sum.elim I E) (B s)){s:σ}(hs:I s):Ev E (hO B s):=by
 intro e he;obtain⟨n,hn⟩:=uq.1 he;clear he
 induction n generalizing s with
 |zero=>cases hn
 |succ n ih=>
  unfold yd at hn;cases hB:B s with
  |none=>rw[hB] at hn;cases hn
  |some r=>
   rw[hB] at hn;have hr:=h s hs r hB;cases r with
   |inl s'=>exact ih hr hn
   |inr e'=>exact Option.some.inj hn ▸ hr
theorem Ev.count{B:σ->Option (σ⊕ε)}{E:ε->Prop}(m:Nat->β->σ)(J:Nat->β->Prop)(h: ∀k b,J k b->Ev (Sum.elim (λs=> ∃b',s=m (k+1) b'/\J (k+1) b') E) (B (m k b))){b:β}(hb:J 0 b):Ev E (hO B (m 0 b)):=
 Ev.loop (λs=> ∃k b,s=m k b/\J k b) (λs hs=>by
  obtain⟨k,b,rfl,hJ⟩:=hs;refine (h k b hJ).mono λr hr=> ?_;cases r with
  |inl s=>obtain⟨b',e,hJ'⟩:=hr;exact⟨k+1,b',e,hJ'⟩
  |inr e=>exact hr) ⟨0,b,rfl,hb⟩
end
end
section
theorem Yo(l:List eA)(c q:Int)(hl:l.length<=maxLen):Ev (λy=>0<=y.1\/ ∀e∈l,¬ (e.op.client=c/\e.op.seq=q)) (jJ l c q):=by
 unfold jJ;refine .bind (.count (B:=kB) (E:=Sum.elim (λe=>0<=e.1.1) λ_=> ∀e∈l,¬ (e.op.client=c/\e.op.seq=q)) (λk (_:Unit)=>((l,c,q,(k:Int),()),(),())) (λk _=>k<=l.length/\ ∀ (j:Nat) e,j<k->l[j]? =some e-> ¬ (e.op.client=c/\e.op.seq=q)) (λk _ hJ=> ?_) (b:=()) ⟨aB _,λj e h=>absurd h (Nat.not_lt_zero j)⟩) λe he=> ?_
 ·refine .br (λh=> .ip λ_=> .bd λe he=> ?_) λh=> .ret λe he=> ?_
  ·have hk:k<l.length:=aH.1 (of_decide_eq_true h);have he:l[k]? =some e:=he;have sw:=ei hl hk
   have next: ¬ (e.op.client=c/\e.op.seq=q)->k+1<=l.length/\ ∀ (j:Nat) e,j<k+1->l[j]? =some e-> ¬ (e.op.client=c/\e.op.seq=q):=λhn=>⟨hk,λj f hj hf=>by
    by_cases hjk:j=k
    ·subst hjk;rw[he] at hf;exact Option.some.inj hf ▸ hn
    ·exact hJ.2 j f (by omega) hf⟩
   refine .br (λ_=> .ip λ_=> .bd λf hf=> .br (λ_=> .ret (ay k)) λh2=> .ret ⟨(),by rw[sw],next λhn=> ?_⟩) λh1=> .ret ⟨(),by rw[sw],next λhn=>absurd hn.1 (ne_of_beq_false h1)⟩;obtain rfl:f=e:=Option.some.inj ((show l[k]? =some f from hf).symm.trans he);exact ne_of_beq_false h2 hn.2
  ·have : ¬ ((k:Int)< (l.length:Int)):=of_decide_eq_false h;obtain⟨j,hj,rfl⟩:=aL he;exact hJ.2 j _ (by omega) (ah hj)
 ·cases e with
  |inl e=>exact .ret (.inl he)
  |inr e=>exact .ret (.inr he)
theorem SJ(l:List eA)(e:eA)(hl: (l++ [e]).length<=maxLen):Ev (λy=>0<=y.1) (jJ (l++ [e]) e.op.client e.op.seq):=
 (Yo _ _ _ hl).mono λ_ h=>h.resolve_right λh=>h e (dL _ aF) ⟨rfl,rfl⟩
theorem UQ(x:eh)(ok:gD 1048576 x)(id:Int)(o:Op):Ev (λy=>(y.2.1≠0->y.1=x)/\(y.2.1=0->ew x=some (true,())/\ ∃s,x.servers[id.toNat]? =some s/\((y.1=x/\ ∃n,jJ s.log o.client o.seq=some (n,())/\0<=n)\/y.1=tM x (x.servers.set id.toNat ⟨s.up,s.intact,s.version,s.epoch,s.config,s.first,s.log++ [⟨s.epoch,o⟩],s.commit,s.learned⟩)))) (fX x id o):=by
 unfold fX;rw[(jQ x ok).1,ae];have bad: ∀n:Int,n≠0->Ev (λy:eh×Int×Unit=>(y.2.1≠0->y.1=x)/\(y.2.1=0->ew x=some (true,())/\ ∃s,x.servers[id.toNat]? =some s/\((y.1=x/\ ∃n,jJ s.log o.client o.seq=some (n,())/\0<=n)\/y.1=tM x (x.servers.set id.toNat ⟨s.up,s.intact,s.version,s.epoch,s.config,s.first,s.log++ [⟨s.epoch,o⟩],s.commit,s.learned⟩)))) (some (x,n,())):=λn hn=> .ret ⟨λ_=>rfl,λh=>absurd h hn⟩;refine .bd λv hv=> .brn (λev=> .bd λ_ _=> .brn (λ_=> .bd λ_ _=> .brn (λ_=> .ip λ_=> .bd λs hs=> .brn (λ_=> .bd λ_ _=> .brn (λ_=> .bd λn hn=> ?_) λ_=>bad 3 (by decide)) λ_=>bad 2 (by decide)) λ_=>bad 1 (by decide)) λ_=>bad 1 (by decide)) λ_=>bad 1 (by decide);have hv:ew x=some (true,()):=hv.trans (congrArg some (Prod.ext ev rfl))
 extract_lets+lift j17 j18
 generalize hQ: (λy:eh×Int×Unit=>(y.2.1≠0->y.1=x)/\(y.2.1=0->ew x=some (true,())/\ ∃s,x.servers[id.toNat]? =some s/\((y.1=x/\ ∃n,jJ s.log o.client o.seq=some (n,())/\0<=n)\/y.1=tM x (x.servers.set id.toNat ⟨s.up,s.intact,s.version,s.epoch,s.config,s.first,s.log++ [⟨s.epoch,o⟩],s.commit,s.learned⟩))))=Q at bad ⊢
 have h17:Ev Q j17:=by unfold j17;refine .ip λ_=> .bd λa ha=> .bd λb hb=> .ip λ_=> .ite (λ_=> .no) λ_=> .ip λ_=> .ip λ_=> .bd λd hd=> .ip λ_=> .ret ?_;obtain rfl:a=s:=Option.some.inj ((show x.servers[id.toNat]? =some a from ha).symm.trans hs);obtain rfl:b=a:=Option.some.inj ((show x.servers[id.toNat]? =some b from hb).symm.trans hs);obtain rfl:d=b:=Option.some.inj ((show x.servers[id.toNat]? =some d from hd).symm.trans hs);rw[<-hQ];refine⟨λh=>absurd rfl h,λ_=>⟨hv,d,hs,.inr ?_⟩⟩;show (⟨x.now,x.servers.set id.toNat _,x.sides,x.master,x.masterUp,x.lease,x.places⟩:eh)=_;rw[bq]
 have h18:Ev Q j18:=by unfold j18;refine .bd λ_ _=> .bd λ_ _=> .brn (λ_=> .bd λ_ _=> .br (λ_=> .bd λ_ _=> .br (λ_=>bad 6 (by decide)) λ_=> .br (λ_=>bad 5 (by decide)) λ_=>h17) λ_=> .br (λ_=>bad 5 (by decide)) λ_=>h17) λ_=>bad 11 (by decide)
 have good:n.1≥0->Ev Q (some (x,0,())):=λh0=> .ret (by rw[<-hQ];exact⟨λ_=>rfl,λ_=>⟨hv,s,hs,.inl ⟨rfl,n.1,hn,h0⟩⟩⟩)
 exact .br (λh=> .ip λ_=> .bd λe _=> .brn (λ_=> .br (λh=>good (of_decide_eq_true h)) λ_=>h18) λ_=>bad 11 (by decide)) λ_=> .br (λh=>good (of_decide_eq_true h)) λ_=>h18
end
section
theorem Gj(a b:List eA)(ha:a.length<=maxLen): ∃n:Nat,lj a b=some ((n:Int),())/\n<=a.length/\n<=b.length/\a.take n=b.take n/\(n<a.length->n<b.length->a[n]? ≠b[n]?):=by
 rcases s7 (B:=iU) a.length (λk=>((a,b,(k:Int),()),(),())) ((((a.length:Nat):Int),()),(),()) (λk=>(((k:Int),()),(),())) (λk=>decide (a[k]? ≠b[k]?))
  (by simp only[iU];rw[ez,if_neg (by omega)])
  (λk hk=>by
    have c1: (k:Int)< (a.length:Int):=by omega
    have c2: (0:Int)<=(k:Int):=by omega
    by_cases hk':k<b.length
    ·have c3: (k:Int)< (b.length:Int):=by omega
     simp only[iU,R6,ez,eE,if_pos c1,if_pos c2,if_pos c3,aw,ah hk,ah hk',ae,ei ha hk];by_cases h:a[k] =b[k]<;>simp[h]
    ·have c3: ¬ (k:Int)< (b.length:Int):=by omega
     simp only[iU,ez,if_pos c1,if_neg c3,ah hk,bZ (show b.length<=k by omega)];simp) with ⟨k1,k2⟩| ⟨i,hi,k1,k2,k3⟩
 ·have eq: ∀k,k<a.length->a[k]? =b[k]? :=λk hk=>by simpa using k2 k hk
  have hl:a.length<=b.length:=by
   rcases bk a.length with h|h
   ·omega
   ·have:=eq (a.length-1) (by omega);rw[ah (by omega)] at this;have:=i9 this.symm;omega
  refine⟨a.length,?_,au _,hl,?_,λh=>absurd h (cU _)⟩
  ·unfold lj;rw[show qd ((a,b,0,()),(),())=_ from k1];rfl
  ·refine bE λk=> ?_;rw[bi,bi];split
   ·exact eq k (by assumption)
   ·rfl
 ·have eq: ∀k,k<i->a[k]? =b[k]? :=λk hk=>by simpa using k3 k hk
  have hl:i<=b.length:=by
   rcases bk i with h|h
   ·omega
   ·have:=eq (i-1) (by omega);rw[ah (by omega)] at this;have:=i9 this.symm;omega
  refine⟨i,?_,by omega,hl,?_,λ_ _=>by simpa using k2⟩
  ·unfold lj;rw[show qd ((a,b,0,()),(),())=_ from k1];rfl
  ·refine bE λk=> ?_;rw[bi,bi];split
   ·exact eq k (by assumption)
   ·rfl
theorem UR{a b:List eA}(ha:a.length<=maxLen)(h: ∀ (i:Nat) e,a[i]? =some e->b[i]? =some e):s6 a b=some (true,()):=by
 obtain⟨n,n1,n2,n3,_,n5⟩:=Gj a b ha
 have hn:n=a.length:=by
  rcases Nat.lt_or_eq_of_le n2 with hlt|e
  ·have hb:=h n _ (ah hlt);exact absurd ((ah hlt).trans hb.symm) (n5 hlt (i9 hb))
  ·exact e
 unfold s6;rw[n1,ae,hn,beq_self_eq_true]
end
section
section
variable [eg]
theorem M2{x:Hd}{l:List Int}(h:qW x=some l)(hl:l.length<=maxLen)(hb: ∀m∈l,0<=m/\m<=255):Tt (λy=>gD 1048576 y.1) (iM x):=by unfold iM;exact .dn (Yl h hl hb) λc y hc hy=> .dn (K5 hc) λc2 _ _ _=> .ip rfl (.ret hy.1)
theorem Lk(x:Hd)(l:List Int)(h:qW x=some l)(hl:l.length<=maxLen)(hb: ∀m∈l,0<=m/\m<=255):tL x=some (true,()):=by
 refine Tt.tru ?_;unfold tL;refine .bind (Q:=T1) (by unfold RL;exact .ret trivial) λ_ _=> .br (λ_=> .ret rfl) λ_=> .bind (M2 h hl hb) λa ha=> ?_;obtain⟨S,n,s1,i1,oky,hlen,h0⟩:=Sf a.1 ha a.2.1 a.2.2.1;have hE:=UQ a.1 ha a.2.1 a.2.2.1 _ s1;rw[i1,s1,ae,ae,ej,beq_self_eq_true];refine .br (λ_=> ?_) (λh=>by cases h);rw[Yn _ oky,ae,ej];refine .br (λ_=> ?_) (λh=>by cases h);rw[ej];refine .br (λhn=> ?_) λhn=> ?_
 ·have hn:n=0:=eq_of_beq hn;obtain⟨hid0,hid5,hx5⟩:=h0 hn;obtain⟨hv,s,hs,hcase⟩:=hE.2 hn;have oks:=ha.1.2 s (ap hs)
  have hts: ∃t,S[a.2.1.toNat]? =some t/\((t.log=s.log/\ ∃n,jJ s.log a.2.2.1.client a.2.2.1.seq=some (n,())/\0<=n)\/t.log=s.log++ [⟨s.epoch,a.2.2.1⟩]):=by
   rcases hcase with ⟨e,hf⟩|e
   ·have e:S=a.1.servers:=congrArg eh.servers e;exact⟨s,by rw[e];exact hs,.inl ⟨rfl,hf⟩⟩
   ·have e:S=a.1.servers.set a.2.1.toNat _:=congrArg eh.servers e;exact⟨_,by rw[e];exact dF (i9 hs),.inr rfl⟩
  obtain⟨t,ht,hlog⟩:=hts;have okt:=oky.1.2 t (ap ht);have rng:0<=a.2.1/\a.2.1< (S.length:Int):=by rw[hlen];omega
  have rng2:0<=a.2.1/\a.2.1< (a.1.servers.length:Int):=by omega
  have hf:Tt (λy=>0<=y.1) (sY t.log a.2.2.1.client a.2.2.1.seq):=by
   obtain⟨m,m1,m2,_⟩:=X5 t.log a.2.2.1.client a.2.2.1.seq (eW okt.2.1);refine⟨_,m2,?_⟩;rcases hlog with ⟨e,k,k1,k2⟩|e
   ·rw[e,k1] at m1;rw[<-(Prod.mk.inj (Option.some.inj m1)).1];exact k2
   ·rw[e] at m1;exact SJ s.log ⟨s.epoch,a.2.2.1⟩ (by rw[<-e];exact eW okt.2.1) _ m1
  refine .ip rng ?_;show Tt _ ((S[a.2.1.toNat]?).bind _);simp only[ht,hs,ae];refine .ip (cP (aK _)) ?_;rw[bM,bq];refine .bind hf λy hy=> .go hy (.ip rng2 ?_);refine .br (λ_=> .ret rfl) λhne=> ?_;have hne: ¬ ((t.log.length:Nat):Int)=((s.log.length:Nat):Int):=ne_of_beq_false hne
  have e:t.log=s.log++ [⟨s.epoch,a.2.2.1⟩] :=by
   rcases hlog with ⟨e,_⟩|e
   ·exact absurd (by rw[e]) hne
   ·exact e
  have hl1:t.log.length=s.log.length+1:=by rw[e,ax,az]
  have tl:=okt.2.1;rw[fm (n:=((t.log.length:Nat):Int)-1) (by omega) (by omega)];refine .ip ⟨by omega,by omega⟩ ?_;rw[show 0+(((t.log.length:Nat):Int)-1).toNat=s.log.length by omega,show t.log[s.log.length]? =some ⟨s.epoch,a.2.2.1⟩ by rw[e,List.getElem?_concat_length]];show Tt _ (br _ _ _);simp only[beq_self_eq_true,Bool.and_self];refine .ip rng2 (.ip (cP (aK _)) (.ip (cP (aK _)) ?_));simp only[bM,bq];rw[UR (eW oks.2.1) λi z hz=>by rw[e,ba (i9 hz)];exact hz];exact .ret rfl
 ·rw[show tM a.1 S=a.1 from hE.1 (ne_of_beq_false hn),Yn a.1 ha];exact .ret rfl
end
end
end Go.Proofs.YtkghndikalnipaaGreat.En
