/- The law OctetDamage, as the row asks it: proved in YtgeoapkiegblnaaMyOctY. -/
import Derived.Test.YtgeoapkiegblnaaMyOctY
