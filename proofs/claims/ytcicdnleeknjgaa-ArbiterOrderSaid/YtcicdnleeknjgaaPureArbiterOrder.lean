/- The law ArbiterOrder, as the printed row asks it: proved in YtcicdnleeknjgaaMyArbL4. -/
import Derived.Test.YtcicdnleeknjgaaMyArbL4
